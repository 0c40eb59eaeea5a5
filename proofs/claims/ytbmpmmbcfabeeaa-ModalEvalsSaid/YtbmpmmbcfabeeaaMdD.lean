/-
  modal.Eval, told without memory.
-/
import Derived.Test.YtbmpmmbcfabeeaaMdC
namespace Go.Proofs.Ytbmpmmbcfabeeaa
open Go Go.Pv
set_option linter.unusedVariables false
set_option linter.unusedSimpArgs false
set_option maxRecDepth 100000
set_option maxHeartbeats 4000000

def holdOf (m : Mdl) (w : Nat) (x : ByteArray) : Bool := hasStr ((m.tr[w]?).getD []) x
/-- what Eval answers -/
def evalM (m : Mdl) (f : Fm) : PV × (Int × Int) :=
  if (kripkeCheck m).1 ≠ 0 then (.nilsl, kripkeCheck m) else
  if (formulaCheck f).1 ≠ 0 then (.nilsl, formulaCheck f) else
  (.list ((evL (frameOf m) (holdOf m) f).map boolRow), (0, 0))

theorem nodes_ok (M : Nat) (hM : 2 ≤ M) : ∀ (n : Nat) (st : List Fm), (nodesGo M n st).length < n → (∀ x ∈ nodesGo M n st, (x.kids.length : Int) = kidsN x.kind) → ∀ f ∈ st, OkF (fun _ => True) f := by
  intro n
  induction n with
  | zero => intro st h; omega
  | succ n ih =>
    intro st h g f hf
    cases st with
    | nil => cases hf
    | cons x r =>
      have e : nodesGo M (n + 1) (x :: r) = x :: nodesGo M n (x.kids.take M ++ r) := rfl
      rw [e] at h g
      have hx := g x (by simp)
      have h2 : x.kids.length ≤ 2 := by unfold kidsN at hx; (repeat' split at hx) <;> omega
      have hi := ih (x.kids.take M ++ r) (by simpa using h) fun y hy => g y (by simp [hy])
      rw [List.take_of_length_le (by omega)] at hi
      rcases List.mem_cons.1 hf with rfl | hf
      · cases f with
        | mk k nm kids => exact .mk hx (fun _ => trivial) fun y hy => hi y (by rw [List.mem_append]; exact .inl hy)
      · exact hi f (by simp [hf])
theorem checkNodes_none : ∀ (l : List Fm) (i : Int), checkNodes l i = none → ∀ (k : Nat) (x : Fm), l[k]? = some x → i + k ≠ 200 ∧ (x.kids.length : Int) = kidsN x.kind := by
  intro l
  induction l with
  | nil => intro i h k x hx; simp at hx
  | cons p r ih =>
    intro i h k x hx
    rw [checkNodes] at h
    (repeat' split at h) <;> first | (cases h; done) | skip
    cases k with
    | zero =>
      simp at hx; subst hx
      constructor
      · simpa using ‹¬ i = 200›
      · exact Decidable.not_not.1 (by assumption)
    | succ k =>
      have := ih _ h k x (by simpa using hx)
      refine ⟨?_, this.2⟩
      have h3 := this.1
      omega
theorem okF_of_check (f : Fm) (h : (formulaCheck f).1 = 0) : OkF (fun _ => True) f := by
  unfold formulaCheck at h
  cases hc : checkNodes (nodesGo 201 201 [f]) 0 with
  | some x => rw [hc] at h; exact absurd h (checkNodes_some _ _ _ hc)
  | none =>
    have hn := checkNodes_none _ _ hc
    refine nodes_ok 201 (by omega) 201 [f] ?_ (fun x hx => ?_) f (by simp)
    · rcases Nat.lt_or_ge (nodesGo 201 201 [f]).length 201 with h1 | h1
      · exact h1
      · have := hn 200 _ (List.getElem?_eq_getElem (by omega))
        simp at this
    · obtain ⟨k, hk⟩ := List.mem_iff_getElem?.1 hx
      exact (hn k x hk).2
theorem relFault_some {n : Int} : ∀ (l : List (Int × Int)) (i : Int) (x : Int × Int), relFault n l i = some x → x.1 = 3 := by
  intro l
  induction l with
  | nil => intro i x h; simp [relFault] at h
  | cons p r ih =>
    intro i x h
    rw [relFault] at h
    split at h
    · cases h; rfl
    · exact ih _ _ h
theorem relFault_none {n : Int} : ∀ (l : List (Int × Int)) (i : Int), relFault n l i = none → ∀ p ∈ l, 0 ≤ p.1 ∧ p.1 < n ∧ 0 ≤ p.2 ∧ p.2 < n := by
  intro l
  induction l with
  | nil => intro i h p hp; cases hp
  | cons p r ih =>
    intro i h q hq
    rw [relFault] at h
    split at h
    · cases h
    · rename_i hc
      rcases List.mem_cons.1 hq with rfl | hq
      · omega
      · exact ih _ h q hq
theorem model_of_check (m : Mdl) (h : (kripkeCheck m).1 = 0) : 1 ≤ m.n ∧ m.n ≤ 40 ∧ (m.tr.length : Int) = m.n ∧ ∀ p ∈ m.rel, 0 ≤ p.1 ∧ p.1 < m.n ∧ 0 ≤ p.2 ∧ p.2 < m.n := by
  unfold kripkeCheck at h
  split at h
  · simp at h
  · split at h
    · simp at h
    · rename_i h1 h2
      cases hr : relFault m.n m.rel 0 with
      | some x =>
        have := relFault_some _ _ _ hr
        rw [hr] at h
        simp [Option.orElse] at h
        omega
      | none => exact ⟨by omega, by omega, by omega, relFault_none _ _ hr⟩

theorem eval_top (m : Mdl) (f : Fm) (s : Store) : CallOK Try.prog 39 [.agg (mdl m), .agg (frm f)] s (.tuple [(evalM m f).1, flt (evalM m f).2.1 (evalM m f).2.2]) s := by
  refine CallOK.frame ?_ ?_
  · refine callOK_of Try.func39 rfl rfl Try.ntmps39 (by simp) ?_
    rw [Try.results39]
    dsimp only [light, regL, dsts, lopsL, lop, nth]
    have hmax : maxLen = 9223372036854775807 := rfl
    unfold mdl
    have hck := check_kripke m
    unfold mdl flt at hck
    have hcf := check_formula f
    (have F_ := And.intro @frm_length (And.intro @frm_take (And.intro @frm_cell (@frm_drop3)))); repeat' (first | (with_reducible refine stp ?_) | (with_reducible refine hq _ _ ?_; clear hq q) | (with_reducible refine hk _ _ ?_; clear hk k) | (with_reducible refine EvL.regA (fun k hk => ?_)) | ((with_reducible apply WOps.call); (· exact dOK); (· exact vOK); (· first | assumption | exact EnT.h); (· exact argsOK (x := by first | exact hck _ | exact hcf _))) | (with_reducible refine WOps.auto F_ (fun q hq => ?_)) | ((with_reducible refine EvL.condA ?_ ?_); all_goals (intro h <;> (try simp only [hna, hnb, hnc, ne_eq, reduceCtorEq, Int.reduceEq, gt_iff_lt, ge_iff_le] at h) <;> (try (exfalso; omega; done)))) | (with_reducible refine EvL.drawnA (fun k hk => ?_)) | (with_reducible refine WOps.takeA ?_) | (with_reducible refine WOps.passA ?_) | ((with_reducible refine WOps.splitA ?_ ?_); all_goals (intro h <;> simp only [h] <;> (try simp only [hna, hnb, hnc, ne_eq, reduceCtorEq, Int.reduceEq, gt_iff_lt, ge_iff_le] at h) <;> (try (exfalso; omega; done)))) | ((with_reducible refine And.intro ?_ ?_); (· omega)) | ((with_reducible refine And.intro (fun h => ?_) (fun h => ?_)) <;> (try simp only [Decidable.not_not] at h) <;> (try simp only [h])) | (with_reducible intro hl))
    · (refine finA ?_; try exact trivial)
      simp only [evalM, if_pos (show (kripkeCheck m).1 ≠ 0 from h), flt]; exact ⟨trivial, trivial⟩
    · rename_i hk0
      (refine finA ?_; try exact trivial)
      simp only [evalM, if_neg (show ¬ (kripkeCheck m).1 ≠ 0 by omega), if_pos (show (formulaCheck f).1 ≠ 0 from h), flt]; exact ⟨trivial, trivial⟩
    · rename_i hk0
      obtain ⟨hm1, hm2, hm3, hm4⟩ := model_of_check m hk0
      have hf := okF_of_check f h
      have hl : (frameOf m).length = m.n.toNat := by simp [frameOf]
      have hc := fun s => eval_modal (frameOf m) (by intro row hr; rw [hl]; simp only [frameOf, List.mem_map] at hr; obtain ⟨i, _, rfl⟩ := hr; simp) (by omega) 89 [] [.iptr (mdl m)] (holdOf m) (fun _ => True) en89
        (fun w x s hw _ => by
          have hw' : w < m.tr.length := by omega
          have := eval1_modal m w hw' x s
          simpa [holdOf, List.getElem?_eq_getElem hw'] using this) (by simp) (by simp [closed_iptr]) (fun ρ => trivial) (fun ρ => ⟨.iptr, trivial⟩) f hf s
      have hnf := newFrame_modal m (by omega) hm2 hm4
      unfold mdl at hnf hc
      refine EvL.view (View.freeze [0] 3 [(2, .iptr [.int .i64 m.n, .list (m.rel.map relRow), .list (m.tr.map strsRow)]), (3, .ptr 1 0 0), (4, .nilsl), (5, .ptr 2 0 0)] (by simp only [FrzEnv, only]; (refine vw ?_; try exact trivial); simp [deref])) ?_
      simp only [less, lga, lgb, lgc, lgd, lge, lgf, lgg, lgh, lgi, lgj, lgk, nn, reduceCtorEq, reduceIte, Nat.reduceEqDiff, Nat.reduceLT, Nat.reduceAdd, Nat.reduceMul, Nat.reduceLeDiff, Int.toNat_natCast, Int.toNat_zero, Int.toNat_one, Int.reduceToNat, Int.reduceLE, Int.reduceLT, ne_eq, eq_self, Int.natCast_zero, Int.cast_ofNat_Int, Int.natCast_add, Int.natCast_one, Int.reduceNeg]
      (have F_ := And.intro @frm_length (And.intro @frm_take (And.intro @frm_cell (@frm_drop3)))); repeat' (first | (with_reducible refine stp ?_) | (with_reducible refine hq _ _ ?_; clear hq q) | (with_reducible refine hk _ _ ?_; clear hk k) | (with_reducible refine EvL.regA (fun k hk => ?_)) | ((with_reducible apply WOps.call); (· exact dOK); (· exact vOK); (· first | assumption | exact EnT.h); (· exact argsOK (x := by first | exact hnf _ | exact hc _))) | (with_reducible refine WOps.auto F_ (fun q hq => ?_)) | ((with_reducible refine EvL.condA ?_ ?_); all_goals (intro h <;> (try simp only [hna, hnb, hnc, ne_eq, reduceCtorEq, Int.reduceEq, gt_iff_lt, ge_iff_le] at h) <;> (try (exfalso; omega; done)))) | (with_reducible refine EvL.drawnA (fun k hk => ?_)) | (with_reducible refine EvL.mixA (fun k hk => ?_)) | (with_reducible refine EvL.mix2A (fun k hk => ?_)) | (with_reducible refine WMix.bothA F_ ?_ ?_) | (with_reducible refine WOps.takeA ?_) | (with_reducible refine WOps.passA ?_) | ((with_reducible refine WOps.splitA ?_ ?_); all_goals (intro h <;> simp only [h] <;> (try simp only [hna, hnb, hnc, ne_eq, reduceCtorEq, Int.reduceEq, gt_iff_lt, ge_iff_le] at h) <;> (try (exfalso; omega; done)))) | (with_reducible refine WMix.takeA ?_) | (with_reducible refine WMix.passA ?_) | ((with_reducible apply WMix.cons); (· exact dOK); (· decide); (· intro t; (with_reducible apply WG.call); (· exact vOK); (· first | assumption | exact EnT.h); (· exact argsOK (x := by first | exact hnf _ | exact hc _)))) | (with_reducible refine WMix.consA F_ ?_) | (with_reducible refine WMix.makeA F_ ?_) | ((with_reducible refine And.intro ?_ ?_); (· omega)) | ((with_reducible refine And.intro (fun h => ?_) (fun h => ?_)) <;> (try simp only [Decidable.not_not] at h) <;> (try simp only [h])) | (with_reducible intro hl))
      (refine finA ?_; try exact trivial)
      simp only [evalM, if_neg (show ¬ (kripkeCheck m).1 ≠ 0 by omega), if_neg (show ¬ (formulaCheck f).1 ≠ 0 by omega), flt]
      exact ⟨trivial, trivial⟩
  · intro a ha; simp only [List.mem_cons, List.not_mem_nil, or_false] at ha
    rcases ha with rfl | rfl
    · exact closed_agg (by simp [mdl, flat_int, Flat.closed, closed_list])
    · exact closed_frm f

end Go.Proofs.Ytbmpmmbcfabeeaa
