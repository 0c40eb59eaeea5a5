/-
  sequentlaw.modalBegun, told without memory.
-/
import Derived.Test.YtbmpmmbcfabeeaaMdD
import Derived.Test.YtbmpmmbcfabeeaaTPa
namespace Go.Proofs.Ytbmpmmbcfabeeaa
open Go Go.Pv
set_option linter.unusedVariables false
set_option linter.unusedSimpArgs false
set_option maxRecDepth 100000
set_option maxHeartbeats 4000000

theorem mdl_length (m : Mdl) : (mdl m).length = 3 := rfl
theorem mdl_take (m : Mdl) : (mdl m).take 3 = mdl m := rfl
theorem mdl_cell (m : Mdl) : (mdl m).all isCell = true := rfl
theorem mdl_drop3 (m : Mdl) : (mdl m).drop 3 = [] := rfl

def begunM : Mdl := ⟨1, [], [[]]⟩
def begunF : Fm := .mk 3 ⟨#[]⟩ []
theorem begun_eval : evalM begunM (of1 8 begunF) = (.list ([true].map boolRow), (0, 0)) := by
  have h1 : (kripkeCheck begunM).1 = 0 := by decide
  have h2 : (formulaCheck (of1 8 begunF)).1 = 0 := by
    rw [formulaCheck_iff, pre_of1, begunF, pre, pres]
    refine ⟨fun x hx => ?_, by simp⟩
    simp only [List.mem_cons, List.not_mem_nil, or_false] at hx
    rcases hx with rfl | rfl
    · exact ok_of1 (by simp)
    · simp [okN, Fm.kind, Fm.kids, Fm.name, kidsN]
  rw [show evalM begunM (of1 8 begunF) = (.list ((evL (frameOf begunM) (holdOf begunM) (of1 8 begunF)).map boolRow), (0, 0)) from by unfold evalM; rw [if_neg (by omega), if_neg (by omega)]]
  have : frameOf begunM = [[false]] := by decide
  rw [this]
  simp [evL, of1, ev, tabAt, boolRow, List.range_succ]

theorem modalBegun_law (s : Store) : CallOK Try.prog 37 [] s (.bool true) s := by
  refine CallOK.frame ?_ ?_
  · refine callOK_of Try.func37 rfl rfl Try.ntmps37 (by simp) ?_
    rw [Try.results37]
    dsimp only [light, regL, dsts, lopsL, lop, nth]
    have hmax : maxLen = 9223372036854775807 := rfl
    have he := fun s => eval_top begunM (of1 8 begunF) s
    rw [begun_eval] at he
    have hfr : frm begunF = [.int .i64 3, .str ⟨#[]⟩, .list []] := by rw [frm_eq]; rfl
    have hof := fun s => (of_law 8 begunF s).soft (args' := [.int .i64 8, .agg [.int .i64 3, .str ⟨#[]⟩, .nilsl]]) (by rw [hfr]; exact .cons .refl (.cons (.agg (.cons .refl (.cons .refl (.cons .nil .nil)))) .nil))
    (have F_ := @frm_length); repeat' (first | (with_reducible refine stp ?_) | (with_reducible refine hq _ _ ?_; clear hq q) | (with_reducible refine hk _ _ ?_; clear hk k) | (with_reducible refine EvL.regA (fun k hk => ?_)) | ((with_reducible apply WOps.call); (· exact dOK); (· exact vOK); (· first | assumption | exact EnT.h); (· exact argsOK (x := by first | fail))) | (with_reducible refine WOps.auto F_ (fun q hq => ?_)) | ((with_reducible refine EvL.condA ?_ ?_); all_goals (intro h <;> (try simp only [hna, hnb, hnc, ne_eq, reduceCtorEq, Int.reduceEq, gt_iff_lt, ge_iff_le] at h) <;> (try (exfalso; omega; done)))) | (with_reducible refine EvL.drawnA (fun k hk => ?_)) | (with_reducible refine WOps.takeA ?_) | (with_reducible refine WOps.passA ?_) | ((with_reducible refine WOps.splitA ?_ ?_); all_goals (intro h <;> simp only [h] <;> (try simp only [hna, hnb, hnc, ne_eq, reduceCtorEq, Int.reduceEq, gt_iff_lt, ge_iff_le] at h) <;> (try (exfalso; omega; done)))) | ((with_reducible refine And.intro ?_ ?_); (· omega)) | ((with_reducible refine And.intro (fun h => ?_) (fun h => ?_)) <;> (try simp only [Decidable.not_not] at h) <;> (try simp only [h])) | (with_reducible intro hl))
    refine EvL.view (View.freeze [0, 1] 4 [(1, .iptr [.int .i64 1, .nilsl, .list [[.nilsl]]])] (by simp only [FrzEnv, only]; (refine vw ?_; try exact trivial); simp [deref])) ?_
    refine EvL.view (View.soft [(1, .iptr (mdl begunM))] (by refine ⟨?_, trivial⟩; simp only [envOf, if_true]; exact .iptr (.cons .refl (.cons .nil (.cons (.list (.cons (.cons .nil .nil) .nil)) .nil))))) ?_
    simp only [less, lga, lgb, lgc, lgd, lge, lgf, lgg, lgh, lgi, lgj, lgk, nn, reduceCtorEq, reduceIte, Nat.reduceEqDiff, Nat.reduceLT, Nat.reduceAdd, Nat.reduceMul, Nat.reduceLeDiff, Int.toNat_natCast, Int.toNat_zero, Int.toNat_one, Int.reduceToNat, Int.reduceLE, Int.reduceLT, ne_eq, eq_self, Int.natCast_zero, Int.cast_ofNat_Int, Int.natCast_add, Int.natCast_one, Int.reduceNeg]
    (have F_ := And.intro @flt_eq (And.intro @mdl_length (And.intro @mdl_take (@boolRow_eq)))); repeat' (first | (with_reducible refine stp ?_) | (with_reducible refine hq _ _ ?_; clear hq q) | (with_reducible refine hk _ _ ?_; clear hk k) | (with_reducible refine EvL.regA (fun k hk => ?_)) | ((with_reducible apply WOps.call); (· exact dOK); (· exact vOK); (· first | assumption | exact EnT.h); (· exact argsOK (x := by first | exact hof _ | exact he _))) | (with_reducible refine WOps.auto F_ (fun q hq => ?_)) | ((with_reducible refine EvL.condA ?_ ?_); all_goals (intro h <;> (try simp only [hna, hnb, hnc, ne_eq, reduceCtorEq, Int.reduceEq, gt_iff_lt, ge_iff_le] at h) <;> (try (exfalso; omega; done)))) | (with_reducible refine EvL.drawnA (fun k hk => ?_)) | (with_reducible refine EvL.mixA (fun k hk => ?_)) | (with_reducible refine EvL.mix2A (fun k hk => ?_)) | (with_reducible refine WMix.bothA F_ ?_ ?_) | (with_reducible refine WOps.takeA ?_) | (with_reducible refine WOps.passA ?_) | ((with_reducible refine WOps.splitA ?_ ?_); all_goals (intro h <;> simp only [h] <;> (try simp only [hna, hnb, hnc, ne_eq, reduceCtorEq, Int.reduceEq, gt_iff_lt, ge_iff_le] at h) <;> (try (exfalso; omega; done)))) | (with_reducible refine WMix.takeA ?_) | (with_reducible refine WMix.passA ?_) | ((with_reducible apply WMix.cons); (· exact dOK); (· decide); (· intro t; (with_reducible apply WG.call); (· exact vOK); (· first | assumption | exact EnT.h); (· exact argsOK (x := by first | exact hof _ | exact he _)))) | (with_reducible refine WMix.consA F_ ?_) | (with_reducible refine WMix.makeA F_ ?_) | ((with_reducible refine And.intro ?_ ?_); (· omega)) | ((with_reducible refine And.intro (fun h => ?_) (fun h => ?_)) <;> (try simp only [Decidable.not_not] at h) <;> (try simp only [h])) | (with_reducible intro hl))
    (refine finA ?_; try exact trivial)
  · intro a ha; cases ha

end Go.Proofs.Ytbmpmmbcfabeeaa
