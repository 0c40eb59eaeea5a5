import Derived.Test.YtkadceiolddmhaaCFormB
import Derived.Test.YtkadceiolddmhaaCPvQt
import Derived.Test.YtkadceiolddmhaaCTy
import Derived.Ground.NamesProg
import Derived.Shelf.Slices.In.CompactS
import Derived.Shelf.Slices.In.SortAlone
import Derived.Shelf.Slices.In.SortNone
import Derived.Sort.EveryDepth
import Derived.Sort.Grow
import Derived.Lib.RowBridge
import Derived.Sort.Walk0
set_option linter.unusedVariables false
set_option linter.unusedSimpArgs false
set_option maxRecDepth 100000
set_option maxHeartbeats 4000000
set_option linter.unusedSectionVars false
namespace Go.Proofs.Ytkadceiolddmhaa
open Go Go.Pv
theorem Fm.ind {p : Fm → Prop} (h : ∀ f : Fm, (∀ g ∈ f.kids, p g) → p f) : ∀ f, p f
 | .mk k nm kids => h _ fun g hg => Fm.ind h g
termination_by f => SizeOf.sizeOf f
decreasing_by
 have := List.sizeOf_lt_of_mem hg
 simp only [Fm.kids, Fm.mk.sizeOf_spec] at *
 omega
mutual
def vastB : Fm → Int → Bool
 | .mk _ _ kids, d => decide (25000 < d) || (decide (25000 < (kids.length : Int)) || vastsB kids (d + 1))
def vastsB : List Fm → Int → Bool
 | [], _ => false
 | f :: r, d => vastB f d || vastsB r d
end
theorem vastB_eq (f : Fm) (d : Int) : vastB f d = (decide (25000 < d) || (decide (25000 < (f.kids.length : Int)) || vastsB f.kids (d + 1))) := by
 cases f with | mk k nm l => rw [vastB]; rfl
theorem vastsB_drop (l : List Fm) (i : Nat) (h : i < l.length) (d : Int) : vastsB (l.drop i) d = (vastB l[i] d || vastsB (l.drop (i + 1)) d) := by
 rw [List.drop_eq_getElem_cons h, vastsB]
theorem vast_ref (f : Fm) : ∀ (d : Int), 0 ≤ d → d ≤ 25001 → ∀ s : Store, CallOK Try.prog 52 [.agg (frm f), .int .i64 d] s (.bool (vastB f d)) s := by
 induction f using Fm.ind with
 | h f ih =>
 intro d hd0 hd1 s
 refine CallOK.frame ?_ ?_
 ·refine callOK_of Try.func52 rfl rfl Try.ntmps52 (by simp) ?_
  rw [Try.results52]
  dsimp only [light, regL, dsts, lopsL, lop, nth]
  have hmax : maxLen = 9223372036854775807 := rfl
  have hv := vastB_eq f d
  (have F_ := And.intro @frm_length (And.intro @frm_take (And.intro @frm_drop3 (And.intro @frm_drop2 (And.intro @frm_get0 (And.intro @frm_get1 (@frm_get2))))))); repeat' (first | (with_reducible refine stp ?_) | (with_reducible refine hq _ _ ?_; clear hq q) | (with_reducible refine hk _ _ ?_; clear hk k) | (with_reducible refine EvL.regA (fun k hk => ?_)) | ((with_reducible apply WOps.call); (· exact dOK); (· exact vOK); (· first | assumption | exact EnT.h); (· exact argsOK (x := by first | fail))) | (with_reducible refine WOps.auto F_ (fun q hq => ?_)) | ((with_reducible refine EvL.condA ?_ ?_); all_goals (intro h <;> (try simp only [hna, hnb, hnc, ne_eq, reduceCtorEq, Int.reduceEq, gt_iff_lt, ge_iff_le] at h) <;> (try (exfalso; omega; done)))) | (with_reducible refine EvL.drawnA (fun k hk => ?_)) | (with_reducible refine EvL.mixA (fun k hk => ?_)) | (with_reducible refine EvL.mix2A (fun k hk => ?_)) | (with_reducible refine WMix.bothA F_ ?_ ?_) | (with_reducible refine WOps.takeA ?_) | (with_reducible refine WOps.passA ?_) | ((with_reducible refine WOps.splitA ?_ ?_); all_goals (intro h <;> simp only [h] <;> (try simp only [hna, hnb, hnc, ne_eq, reduceCtorEq, Int.reduceEq, gt_iff_lt, ge_iff_le] at h) <;> (try (exfalso; omega; done)))) | (with_reducible refine WMix.takeA ?_) | (with_reducible refine WMix.passA ?_) | ((with_reducible apply WMix.cons); (· exact dOK); (· decide); (· intro t; (with_reducible apply WG.call); (· exact vOK); (· first | assumption | exact EnT.h); (· exact argsOK (x := by first | fail)))) | (with_reducible refine WMix.consA F_ ?_) | (with_reducible refine WMix.makeA F_ ?_) | ((with_reducible refine And.intro ?_ ?_); (· omega)) | ((with_reducible refine And.intro (fun h => ?_) (fun h => ?_)) <;> (try simp only [Decidable.not_not] at h) <;> (try simp only [h])) | (with_reducible intro hl))
  ·(refine finA ?_; try exact trivial)
   rw [hv, decide_eq_true ‹25000 < d›]; rfl
  ·(refine finA ?_; try exact trivial)
   rw [hv, decide_eq_true h]; simp
  ·rename_i hl
   have hd2 : d + 1 ≤ 25001 := by omega
   have hwd : IntKind.i64.wrap (d + 1) = d + 1 := wrapi (by omega) (by omega)
   refine EvL.loop (X := Nat) (fun i => [(1, .int .i64 d), (2, .ptr 0 0 0), (5, .int .i64 (i : Int))])
    (fun i => [.rows 3 [frm f]]) (fun i => i ≤ f.kids.length ∧ vastB f d = vastsB (f.kids.drop i) (d + 1)) (fun i => f.kids.length - i) 0 ⟨by omega, by rw [hv, decide_eq_false (by omega), decide_eq_false (by omega)]; rfl⟩
    (View.of [0] _ (by simp) (by decide) (by (refine vw ?_; try exact trivial); exact frm_ren _ _) (by (refine vw ?_; try exact trivial))) (fun i hi => ?_)
   by_cases hlt : i < f.kids.length
   ·have hrow : (f.kids.map frm)[i]? = some (frm f.kids[i]) := map_get _ _ _ _ (List.getElem?_eq_getElem hlt)
    have hw := wrap_up i (by omega)
    have hd := vastsB_drop f.kids i hlt (d + 1)
    (have F_ := And.intro @hrow (And.intro @hw (And.intro @hwd (And.intro @frm_length (And.intro @frm_cell (And.intro @frm_take (And.intro @frm_drop3 (And.intro @frm_drop2 (And.intro @frm_get0 (And.intro @frm_get1 (@frm_get2))))))))))); repeat' (first | (with_reducible refine stp ?_) | (with_reducible refine hq _ _ ?_; clear hq q) | (with_reducible refine hk _ _ ?_; clear hk k) | (with_reducible refine EvL.regA (fun k hk => ?_)) | ((with_reducible apply WOps.call); (· exact dOK); (· exact vOK); (· first | assumption | exact EnT.h); (· exact argsOK (x := by first | exact ih _ (List.getElem_mem hlt) _ (by omega) hd2 _))) | (with_reducible refine WOps.auto F_ (fun q hq => ?_)) | ((with_reducible refine EvL.condA ?_ ?_); all_goals (intro h <;> (try simp only [hna, hnb, hnc, ne_eq, reduceCtorEq, Int.reduceEq, gt_iff_lt, ge_iff_le] at h) <;> (try (exfalso; omega; done)))) | (with_reducible refine EvL.drawnA (fun k hk => ?_)) | (with_reducible refine EvL.mixA (fun k hk => ?_)) | (with_reducible refine EvL.mix2A (fun k hk => ?_)) | (with_reducible refine WMix.bothA F_ ?_ ?_) | (with_reducible refine WOps.takeA ?_) | (with_reducible refine WOps.passA ?_) | ((with_reducible refine WOps.splitA ?_ ?_); all_goals (intro h <;> simp only [h] <;> (try simp only [hna, hnb, hnc, ne_eq, reduceCtorEq, Int.reduceEq, gt_iff_lt, ge_iff_le] at h) <;> (try (exfalso; omega; done)))) | (with_reducible refine WMix.takeA ?_) | (with_reducible refine WMix.passA ?_) | ((with_reducible apply WMix.cons); (· exact dOK); (· decide); (· intro t; (with_reducible apply WG.call); (· exact vOK); (· first | assumption | exact EnT.h); (· exact argsOK (x := by first | exact ih _ (List.getElem_mem hlt) _ (by omega) hd2 _)))) | (with_reducible refine WMix.consA F_ ?_) | (with_reducible refine WMix.makeA F_ ?_) | ((with_reducible refine And.intro ?_ ?_); (· omega)) | ((with_reducible refine And.intro (fun h => ?_) (fun h => ?_)) <;> (try simp only [Decidable.not_not] at h) <;> (try simp only [h])) | (with_reducible intro hl))
    ·(refine finA ?_; try exact trivial)
     rw [hi.2, hd, h]; rfl
    ·refine ⟨i + 1, ⟨by omega, ?_⟩, by omega, View.of [0] _ (by simp) (by decide) (by (refine vw ?_; try exact trivial); exact frm_ren _ _) (by (refine vw ?_; try exact trivial))⟩
     rw [hi.2, hd, h]; rfl
   ·(have F_ := And.intro @frm_length (And.intro @frm_take (And.intro @frm_drop3 (And.intro @frm_drop2 (And.intro @frm_get0 (And.intro @frm_get1 (@frm_get2))))))); repeat' (first | (with_reducible refine stp ?_) | (with_reducible refine hq _ _ ?_; clear hq q) | (with_reducible refine hk _ _ ?_; clear hk k) | (with_reducible refine EvL.regA (fun k hk => ?_)) | ((with_reducible apply WOps.call); (· exact dOK); (· exact vOK); (· first | assumption | exact EnT.h); (· exact argsOK (x := by first | fail))) | (with_reducible refine WOps.auto F_ (fun q hq => ?_)) | ((with_reducible refine EvL.condA ?_ ?_); all_goals (intro h <;> (try simp only [hna, hnb, hnc, ne_eq, reduceCtorEq, Int.reduceEq, gt_iff_lt, ge_iff_le] at h) <;> (try (exfalso; omega; done)))) | (with_reducible refine EvL.drawnA (fun k hk => ?_)) | (with_reducible refine EvL.mixA (fun k hk => ?_)) | (with_reducible refine EvL.mix2A (fun k hk => ?_)) | (with_reducible refine WMix.bothA F_ ?_ ?_) | (with_reducible refine WOps.takeA ?_) | (with_reducible refine WOps.passA ?_) | ((with_reducible refine WOps.splitA ?_ ?_); all_goals (intro h <;> simp only [h] <;> (try simp only [hna, hnb, hnc, ne_eq, reduceCtorEq, Int.reduceEq, gt_iff_lt, ge_iff_le] at h) <;> (try (exfalso; omega; done)))) | (with_reducible refine WMix.takeA ?_) | (with_reducible refine WMix.passA ?_) | ((with_reducible apply WMix.cons); (· exact dOK); (· decide); (· intro t; (with_reducible apply WG.call); (· exact vOK); (· first | assumption | exact EnT.h); (· exact argsOK (x := by first | fail)))) | (with_reducible refine WMix.consA F_ ?_) | (with_reducible refine WMix.makeA F_ ?_) | ((with_reducible refine And.intro ?_ ?_); (· omega)) | ((with_reducible refine And.intro (fun h => ?_) (fun h => ?_)) <;> (try simp only [Decidable.not_not] at h) <;> (try simp only [h])) | (with_reducible intro hl))
    (refine finA ?_; try exact trivial)
    rw [hi.2, List.drop_eq_nil_of_le (by omega)]; rfl
 ·intro a ha; simp only [List.mem_cons, List.not_mem_nil, or_false] at ha
  rcases ha with rfl | rfl
  ·exact closed_frm f
  ·exact (flat_int _ _).closed
theorem kids_len {pub : PHeap} {σ : Sig} {args : List PV} {cargs : Array Value} (h : RelA pub σ args cargs) (j : Nat) (f : Fm) (hv : args[j]? = some (.agg (frm f))) : f.kids.length ≤ maxLen := by
 obtain ⟨c, hc⟩ := relA_at h j _ hv
 obtain ⟨c', hc'⟩ := rel_agg_at hc 2 _ (frm_get2 f)
 simpa using rel_list_len hc'
mutual
def walkL : Fm → Int → List Fm
 | .mk k nm kids, most => walkK kids [.mk k nm kids] most
def walkK : List Fm → List Fm → Int → List Fm
 | [], out, _ => out
 | f :: r, out, most => if (out.length : Int) ≤ most then walkK r (out ++ walkL f (most - out.length)) most else out
end
theorem walkL_eq (f : Fm) (most : Int) : walkL f most = walkK f.kids [f] most := by
 cases f with | mk k nm l => rw [walkL]; rfl
theorem walkK_drop (l : List Fm) (i : Nat) (h : i < l.length) (out : List Fm) (most : Int) : walkK (l.drop i) out most = if (out.length : Int) ≤ most then walkK (l.drop (i + 1)) (out ++ walkL l[i] (most - out.length)) most else out := by
 rw [List.drop_eq_getElem_cons h, walkK]
theorem walkK_len (l : List Fm) (ih : ∀ f ∈ l, ∀ most : Int, 0 ≤ most → 1 ≤ (walkL f most).length ∧ ((walkL f most).length : Int) ≤ most + 1) : ∀ (out : List Fm) (most : Int), 1 ≤ out.length → (out.length : Int) ≤ most + 1 → 1 ≤ (walkK l out most).length ∧ ((walkK l out most).length : Int) ≤ most + 1 := by
 induction l with
 | nil => intro out most h1 h2; rw [walkK]; exact ⟨h1, h2⟩
 | cons f r ih2 =>
  intro out most h1 h2
  rw [walkK]
  split
  ·rename_i h3
   obtain ⟨h4, h5⟩ := ih f (by simp) (most - out.length) (by omega)
   exact ih2 (fun g hg => ih g (by simp [hg])) _ most (by simp; omega) (by simp; omega)
  ·exact ⟨h1, h2⟩
theorem walk_len (f : Fm) : ∀ most : Int, 0 ≤ most → 1 ≤ (walkL f most).length ∧ ((walkL f most).length : Int) ≤ most + 1 := by
 induction f using Fm.ind with
 | h f ih => intro most hm; rw [walkL_eq]; exact walkK_len _ ih _ _ (by simp) (by simp; omega)
theorem frms_rows (l : List Fm) : (∀ row : List PV, row ∈ List.map frm l → row.length = 3 ∧ row.all isCell = true) ↔ True :=
 iff_true_intro fun row h => by
  rw [List.mem_map] at h
  obtain ⟨f, _, rfl⟩ := h
  exact ⟨frm_length f, frm_cell f⟩
theorem walk_ref (f : Fm) : ∀ (most : Int), 0 ≤ most → most ≤ 200000 → ∀ s : Store, CallOK Try.prog 40 [.agg (frm f), .int .i64 most] s (.list ((walkL f most).map frm)) s := by
 induction f using Fm.ind with
 | h f ih =>
 intro most hm0 hm1 s
 refine CallOK.given (f.kids.length ≤ maxLen) (fun _ _ _ h => kids_len h 0 f rfl) fun hkl => ?_
 refine CallOK.frame ?_ ?_
 ·refine callOK_of Try.func40 rfl rfl Try.ntmps40 (by simp) ?_
  rw [Try.results40]
  dsimp only [light, regL, dsts, lopsL, lop, nth]
  have hmax : maxLen = 9223372036854775807 := rfl
  have hv := walkL_eq f most
  (have F_ := And.intro @frm_length (And.intro @frm_take (And.intro @frm_cell (And.intro @frm_drop3 (And.intro @frm_drop2 (And.intro @frm_get0 (And.intro @frm_get1 (@frm_get2)))))))); repeat' (first | (with_reducible refine stp ?_) | (with_reducible refine hq _ _ ?_; clear hq q) | (with_reducible refine hk _ _ ?_; clear hk k) | (with_reducible refine EvL.regA (fun k hk => ?_)) | ((with_reducible apply WOps.call); (· exact dOK); (· exact vOK); (· first | assumption | exact EnT.h); (· exact argsOK (x := by first | fail))) | (with_reducible refine WOps.auto F_ (fun q hq => ?_)) | ((with_reducible refine EvL.condA ?_ ?_); all_goals (intro h <;> (try simp only [hna, hnb, hnc, ne_eq, reduceCtorEq, Int.reduceEq, gt_iff_lt, ge_iff_le] at h) <;> (try (exfalso; omega; done)))) | (with_reducible refine EvL.drawnA (fun k hk => ?_)) | (with_reducible refine EvL.mixA (fun k hk => ?_)) | (with_reducible refine EvL.mix2A (fun k hk => ?_)) | (with_reducible refine WMix.bothA F_ ?_ ?_) | (with_reducible refine WOps.takeA ?_) | (with_reducible refine WOps.passA ?_) | ((with_reducible refine WOps.splitA ?_ ?_); all_goals (intro h <;> simp only [h] <;> (try simp only [hna, hnb, hnc, ne_eq, reduceCtorEq, Int.reduceEq, gt_iff_lt, ge_iff_le] at h) <;> (try (exfalso; omega; done)))) | (with_reducible refine WMix.takeA ?_) | (with_reducible refine WMix.passA ?_) | ((with_reducible apply WMix.cons); (· exact dOK); (· decide); (· intro t; (with_reducible apply WG.call); (· exact vOK); (· first | assumption | exact EnT.h); (· exact argsOK (x := by first | fail)))) | (with_reducible refine WMix.consA F_ ?_) | (with_reducible refine WMix.makeA F_ ?_) | ((with_reducible refine And.intro ?_ ?_); (· omega)) | ((with_reducible refine And.intro (fun h => ?_) (fun h => ?_)) <;> (try simp only [Decidable.not_not] at h) <;> (try simp only [h])) | (with_reducible intro hl))
  refine EvL.loop (X := Nat × List Fm) (fun x => [(1, .int .i64 most), (2, .ptr 0 0 0), (5, .sl 1 0 x.2.length), (6, .int .i64 (x.1 : Int))])
   (fun x => [.rows 3 [frm f], .rows 3 (x.2.map frm)]) (fun x => x.1 ≤ f.kids.length ∧ 1 ≤ x.2.length ∧ (x.2.length : Int) ≤ most + 1 ∧ walkL f most = walkK (f.kids.drop x.1) x.2 most) (fun x => f.kids.length - x.1) (0, [f]) ⟨by simp, by simp, by simp; omega, hv⟩
   (View.of [0, 1] _ (by simp) (by decide) (by (refine vw ?_; try exact trivial); exact ⟨frm_ren _ _, frm_ren _ _⟩) (by (refine vw ?_; try exact trivial))) (fun x hx => ?_)
  obtain ⟨i, out⟩ := x
  obtain ⟨hi, ho1, ho2, hx⟩ := hx
  simp only at hi ho1 ho2 hx
  by_cases hlt : i < f.kids.length
  ·have hrow : (f.kids.map frm)[i]? = some (frm f.kids[i]) := map_get _ _ _ _ (List.getElem?_eq_getElem hlt)
   have hw := wrap_up i (by omega)
   have hd := walkK_drop f.kids i hlt out most
   have hto : (out.map frm).take out.length = out.map frm := List.take_of_length_le (by simp)
   have hsub : IntKind.i64.wrap (most - (out.length : Int)) = most - out.length := wrapi (by omega) (by omega)
   by_cases hle : (out.length : Int) ≤ most
   ·have hlen := walk_len f.kids[i] (most - out.length) (by omega)
    (have F_ := And.intro @hrow (And.intro @hw (And.intro @hsub (And.intro @hto (And.intro @hle (And.intro @frms_rows (And.intro @frm_length (And.intro @frm_cell (And.intro @frm_take (And.intro @frm_drop3 (And.intro @frm_drop2 (And.intro @frm_get0 (And.intro @frm_get1 (@frm_get2)))))))))))))); repeat' (first | (with_reducible refine stp ?_) | (with_reducible refine hq _ _ ?_; clear hq q) | (with_reducible refine hk _ _ ?_; clear hk k) | (with_reducible refine EvL.regA (fun k hk => ?_)) | ((with_reducible apply WOps.call); (· exact dOK); (· exact vOK); (· first | assumption | exact EnT.h); (· exact argsOK (x := by first | exact ih _ (List.getElem_mem hlt) _ (by omega) (by omega) _))) | (with_reducible refine WOps.auto F_ (fun q hq => ?_)) | ((with_reducible refine EvL.condA ?_ ?_); all_goals (intro h <;> (try simp only [hna, hnb, hnc, ne_eq, reduceCtorEq, Int.reduceEq, gt_iff_lt, ge_iff_le] at h) <;> (try (exfalso; omega; done)))) | (with_reducible refine EvL.drawnA (fun k hk => ?_)) | (with_reducible refine EvL.mixA (fun k hk => ?_)) | (with_reducible refine EvL.mix2A (fun k hk => ?_)) | (with_reducible refine WMix.bothA F_ ?_ ?_) | (with_reducible refine WOps.takeA ?_) | (with_reducible refine WOps.passA ?_) | ((with_reducible refine WOps.splitA ?_ ?_); all_goals (intro h <;> simp only [h] <;> (try simp only [hna, hnb, hnc, ne_eq, reduceCtorEq, Int.reduceEq, gt_iff_lt, ge_iff_le] at h) <;> (try (exfalso; omega; done)))) | (with_reducible refine WMix.takeA ?_) | (with_reducible refine WMix.passA ?_) | ((with_reducible apply WMix.cons); (· exact dOK); (· decide); (· intro t; (with_reducible apply WG.call); (· exact vOK); (· first | assumption | exact EnT.h); (· exact argsOK (x := by first | exact ih _ (List.getElem_mem hlt) _ (by omega) (by omega) _)))) | (with_reducible refine WMix.consA F_ ?_) | (with_reducible refine WMix.makeA F_ ?_) | ((with_reducible refine And.intro ?_ ?_); (· omega)) | ((with_reducible refine And.intro (fun h => ?_) (fun h => ?_)) <;> (try simp only [Decidable.not_not] at h) <;> (try simp only [h])) | (with_reducible intro hl))
    rw [← List.map_append]
    refine ⟨(i + 1, out ++ walkL f.kids[i] (most - out.length)), ⟨by simp only; omega, by simp only [List.length_append]; omega, by simp only [List.length_append]; omega, ?_⟩, by simp only; omega, View.of [0, 2] _ (by simp) (by decide) (by (refine vw ?_; try exact trivial); exact ⟨frm_ren _ _, frms_ren _ _⟩) (by (refine vw ?_; try exact trivial))⟩
    simp only
    rw [hx, hd, if_pos hle]
   ·(have F_ := And.intro @hrow (And.intro @hw (And.intro @hsub (And.intro @hto (And.intro @hle (And.intro @frm_length (And.intro @frm_cell (And.intro @frm_take (And.intro @frm_drop3 (And.intro @frm_drop2 (And.intro @frm_get0 (And.intro @frm_get1 (@frm_get2))))))))))))); repeat' (first | (with_reducible refine stp ?_) | (with_reducible refine hq _ _ ?_; clear hq q) | (with_reducible refine hk _ _ ?_; clear hk k) | (with_reducible refine EvL.regA (fun k hk => ?_)) | ((with_reducible apply WOps.call); (· exact dOK); (· exact vOK); (· first | assumption | exact EnT.h); (· exact argsOK (x := by first | fail))) | (with_reducible refine WOps.auto F_ (fun q hq => ?_)) | ((with_reducible refine EvL.condA ?_ ?_); all_goals (intro h <;> (try simp only [hna, hnb, hnc, ne_eq, reduceCtorEq, Int.reduceEq, gt_iff_lt, ge_iff_le] at h) <;> (try (exfalso; omega; done)))) | (with_reducible refine EvL.drawnA (fun k hk => ?_)) | (with_reducible refine EvL.mixA (fun k hk => ?_)) | (with_reducible refine EvL.mix2A (fun k hk => ?_)) | (with_reducible refine WMix.bothA F_ ?_ ?_) | (with_reducible refine WOps.takeA ?_) | (with_reducible refine WOps.passA ?_) | ((with_reducible refine WOps.splitA ?_ ?_); all_goals (intro h <;> simp only [h] <;> (try simp only [hna, hnb, hnc, ne_eq, reduceCtorEq, Int.reduceEq, gt_iff_lt, ge_iff_le] at h) <;> (try (exfalso; omega; done)))) | (with_reducible refine WMix.takeA ?_) | (with_reducible refine WMix.passA ?_) | ((with_reducible apply WMix.cons); (· exact dOK); (· decide); (· intro t; (with_reducible apply WG.call); (· exact vOK); (· first | assumption | exact EnT.h); (· exact argsOK (x := by first | fail)))) | (with_reducible refine WMix.consA F_ ?_) | (with_reducible refine WMix.makeA F_ ?_) | ((with_reducible refine And.intro ?_ ?_); (· omega)) | ((with_reducible refine And.intro (fun h => ?_) (fun h => ?_)) <;> (try simp only [Decidable.not_not] at h) <;> (try simp only [h])) | (with_reducible intro hl))
    (refine finA ?_; try exact trivial)
    rw [hx, hd, if_neg hle]
    simp only [List.length_map, Nat.le_refl, if_true, hto, frms_deref]
  ·(have F_ := And.intro @frm_length (And.intro @frm_take (And.intro @frm_drop3 (And.intro @frm_drop2 (And.intro @frm_get0 (And.intro @frm_get1 (@frm_get2))))))); repeat' (first | (with_reducible refine stp ?_) | (with_reducible refine hq _ _ ?_; clear hq q) | (with_reducible refine hk _ _ ?_; clear hk k) | (with_reducible refine EvL.regA (fun k hk => ?_)) | ((with_reducible apply WOps.call); (· exact dOK); (· exact vOK); (· first | assumption | exact EnT.h); (· exact argsOK (x := by first | fail))) | (with_reducible refine WOps.auto F_ (fun q hq => ?_)) | ((with_reducible refine EvL.condA ?_ ?_); all_goals (intro h <;> (try simp only [hna, hnb, hnc, ne_eq, reduceCtorEq, Int.reduceEq, gt_iff_lt, ge_iff_le] at h) <;> (try (exfalso; omega; done)))) | (with_reducible refine EvL.drawnA (fun k hk => ?_)) | (with_reducible refine EvL.mixA (fun k hk => ?_)) | (with_reducible refine EvL.mix2A (fun k hk => ?_)) | (with_reducible refine WMix.bothA F_ ?_ ?_) | (with_reducible refine WOps.takeA ?_) | (with_reducible refine WOps.passA ?_) | ((with_reducible refine WOps.splitA ?_ ?_); all_goals (intro h <;> simp only [h] <;> (try simp only [hna, hnb, hnc, ne_eq, reduceCtorEq, Int.reduceEq, gt_iff_lt, ge_iff_le] at h) <;> (try (exfalso; omega; done)))) | (with_reducible refine WMix.takeA ?_) | (with_reducible refine WMix.passA ?_) | ((with_reducible apply WMix.cons); (· exact dOK); (· decide); (· intro t; (with_reducible apply WG.call); (· exact vOK); (· first | assumption | exact EnT.h); (· exact argsOK (x := by first | fail)))) | (with_reducible refine WMix.consA F_ ?_) | (with_reducible refine WMix.makeA F_ ?_) | ((with_reducible refine And.intro ?_ ?_); (· omega)) | ((with_reducible refine And.intro (fun h => ?_) (fun h => ?_)) <;> (try simp only [Decidable.not_not] at h) <;> (try simp only [h])) | (with_reducible intro hl))
   have hto : (out.map frm).take out.length = out.map frm := List.take_of_length_le (by simp)
   (refine finA ?_; try exact trivial)
   rw [hx, List.drop_eq_nil_of_le (by omega), walkK]
   simp only [List.length_map, Nat.le_refl, if_true, hto, frms_deref]
 ·intro a ha; simp only [List.mem_cons, List.not_mem_nil, or_false] at ha
  rcases ha with rfl | rfl
  ·exact closed_frm f
  ·exact (flat_int _ _).closed
end Go.Proofs.Ytkadceiolddmhaa
namespace Go.Proofs.Ytkadceiolddmhaa
open Go Go.Pv
inductive OkF (N : ByteArray → Prop) : Fm → Prop where
 | mk {k : Int} {nm : ByteArray} {kids : List Fm} (h : (kids.length : Int) = kidsN k) (hN : k = 1 → N nm) (g : ∀ f ∈ kids, OkF N f) : OkF N (.mk k nm kids)
mutual
def pre : Fm → List Fm
 | .mk k nm l => .mk k nm l :: pres l
def pres : List Fm → List Fm
 | [] => []
 | f :: r => pre f ++ pres r
end
theorem pre_eq (f : Fm) : pre f = f :: pres f.kids := by cases f with | mk k nm l => rw [pre]; rfl
theorem pres_nil : pres [] = [] := by rw [pres]
theorem pres_cons (f : Fm) (r : List Fm) : pres (f :: r) = pre f ++ pres r := by rw [pres]
theorem pres_append (a b : List Fm) : pres (a ++ b) = pres a ++ pres b := by
 induction a with
 | nil => simp [pres_nil]
 | cons f r ih => simp [pres_cons, ih]
theorem pres_head (x : Fm) (r : List Fm) : pres (x :: r) = x :: pres (x.kids ++ r) := by rw [pres_cons, pre_eq, pres_append]; rfl
theorem nodesGo_succ (M n : Nat) (x : Fm) (r : List Fm) : nodesGo M (n + 1) (x :: r) = x :: nodesGo M n (x.kids.take M ++ r) := rfl
theorem nodesGo_nil (M n : Nat) : nodesGo M n [] = [] := by cases n <;> rfl
theorem nodesGo_short (M : Nat) : ∀ (n : Nat) (st : List Fm), (nodesGo M n st).length < n → (∀ x ∈ nodesGo M n st, x.kids.length ≤ M) → nodesGo M n st = pres st := by
 intro n
 induction n with
 | zero => intro st h; omega
 | succ n ih =>
  intro st h g
  cases st with
  | nil => rw [nodesGo_nil, pres_nil]
  | cons x r =>
   rw [nodesGo_succ] at h g ⊢
   have hx := g x (by simp)
   rw [List.take_of_length_le hx] at h g ⊢
   rw [pres_head, ih _ (by simpa using h) fun y hy => g y (by simp [hy])]
theorem nodesGo_long (M : Nat) : ∀ (n : Nat) (st : List Fm), (pres st).length ≤ n → (∀ x ∈ pres st, x.kids.length ≤ M) → nodesGo M n st = pres st := by
 intro n
 induction n with
 | zero =>
  intro st h g
  cases st with
  | nil => rw [nodesGo_nil, pres_nil]
  | cons x r => rw [pres_head] at h; simp at h
 | succ n ih =>
  intro st h g
  cases st with
  | nil => rw [nodesGo_nil, pres_nil]
  | cons x r =>
   rw [pres_head] at h g ⊢
   have hx := g x (by simp)
   rw [nodesGo_succ, List.take_of_length_le hx, ih _ (by simpa using h) fun y hy => g y (by simp [hy])]
def okN (x : Fm) : Prop := 0 ≤ kidsN x.kind ∧ (x.kids.length : Int) = kidsN x.kind ∧ ¬ ((x.kind = 1 ∧ isNameB x.name = false) ∨ (x.kind ≠ 1 ∧ x.name ≠ ⟨#[]⟩))
theorem okN_kids {x : Fm} (h : okN x) : x.kids.length ≤ 201 := by
 have := h.2.1
 unfold kidsN at this
 (repeat' split at this) <;> omega
theorem checkNodes_some : ∀ (l : List Fm) (i : Int) (x : Int × Int), checkNodes l i = some x → x.1 ≠ 0 := by
 intro l
 induction l with
 | nil => intro i x h; simp [checkNodes] at h
 | cons p r ih =>
  intro i x h
  rw [checkNodes] at h
  (repeat' split at h) <;> first | (cases h; simp; done) | exact ih _ _ h
theorem checkNodes_iff : ∀ (l : List Fm) (i : Int), i ≤ 200 → (checkNodes l i = none ↔ (∀ x ∈ l, okN x) ∧ i + l.length ≤ 200) := by
 intro l
 induction l with
 | nil => intro i hi; simp [checkNodes]; exact hi
 | cons x r ih =>
  intro i hi
  rw [checkNodes]
  by_cases h1 : i = 200
  ·rw [if_pos h1]; simp; omega
  ·rw [if_neg h1]
   by_cases h2 : kidsN x.kind < 0
   ·rw [if_pos h2]; simp only [reduceCtorEq, false_iff]; intro ⟨h, _⟩; have := (h x (by simp)).1; omega
   ·rw [if_neg h2]
    by_cases h3 : (x.kids.length : Int) ≠ kidsN x.kind
    ·rw [if_pos h3]; simp only [reduceCtorEq, false_iff]; intro ⟨h, _⟩; exact h3 (h x (by simp)).2.1
    ·rw [if_neg h3]
     by_cases h4 : (x.kind = 1 ∧ isNameB x.name = false) ∨ (x.kind ≠ 1 ∧ x.name ≠ ⟨#[]⟩)
     ·rw [if_pos h4]; simp only [reduceCtorEq, false_iff]; intro ⟨h, _⟩; exact (h x (by simp)).2.2 h4
     ·rw [if_neg h4, ih (i + 1) (by omega)]
      have hx : okN x := ⟨by omega, Decidable.not_not.1 h3, h4⟩
      simp only [List.mem_cons, forall_eq_or_imp, hx, true_and, List.length_cons]
      constructor
      ·rintro ⟨a, b⟩; exact ⟨a, by omega⟩
      ·rintro ⟨a, b⟩; exact ⟨a, by omega⟩
theorem formulaCheck_iff (f : Fm) : (formulaCheck f).1 = 0 ↔ (∀ x ∈ pre f, okN x) ∧ (pre f).length ≤ 200 := by
 have hp : pres [f] = pre f := by rw [pres_cons, pres_nil, List.append_nil]
 constructor
 ·intro h
  unfold formulaCheck at h
  cases hc : checkNodes (nodesGo 201 201 [f]) 0 with
  | some x => rw [hc] at h; exact absurd h (checkNodes_some _ _ _ hc)
  | none =>
   rw [checkNodes_iff _ 0 (by omega)] at hc
   have hn := nodesGo_short 201 201 [f] (by omega) fun x hx => okN_kids (hc.1 x hx)
   rw [hn, hp] at hc
   exact ⟨hc.1, by omega⟩
 ·rintro ⟨h1, h2⟩
  have hn := nodesGo_long 201 201 [f] (by rw [hp]; omega) (by rw [hp]; exact fun x hx => okN_kids (h1 x hx))
  have hc : checkNodes (nodesGo 201 201 [f]) 0 = none := by
   rw [checkNodes_iff _ 0 (by omega), hn, hp]; exact ⟨h1, by omega⟩
  unfold formulaCheck; rw [hc]; rfl
theorem okF_of_pre : ∀ f : Fm, (∀ x ∈ pre f, okN x) → OkF (fun n => isNameB n = true) f := by
 intro f
 induction f using Fm.ind with
 | h f ih =>
  intro h
  have h0 := h f (by rw [pre_eq]; simp)
  cases f with
  | mk k nm l =>
   refine .mk h0.2.1 (fun hk => ?_) fun g hg => ih g hg fun x hx => h x ?_
   ·have := h0.2.2
    simp only [Fm.kind, Fm.name, hk, true_and, not_or] at this
    simpa using this.1
   ·rw [pre_eq]
    refine List.mem_cons_of_mem _ ?_
    have : ∀ l : List Fm, g ∈ l → x ∈ pres l := by
     intro l
     induction l with
     | nil => intro h; cases h
     | cons a r ihr =>
      intro h
      rw [pres_cons, List.mem_append]
      cases h with
      | head => exact .inl hx
      | tail _ h => exact .inr (ihr h)
    exact this l hg
end Go.Proofs.Ytkadceiolddmhaa
namespace Go.Proofs.Ytkadceiolddmhaa
open Go Go.Pv
theorem OkF.nine {N : ByteArray → Prop} {f : Fm} (h : OkF N f) : (∃ nm, N nm ∧ f = .mk 1 nm []) ∨ (∃ nm, f = .mk 2 nm []) ∨ (∃ nm, f = .mk 3 nm []) ∨ (∃ nm a, OkF N a ∧ f = .mk 4 nm [a]) ∨ (∃ nm a b, OkF N a ∧ OkF N b ∧ f = .mk 5 nm [a, b]) ∨
  (∃ nm a b, OkF N a ∧ OkF N b ∧ f = .mk 6 nm [a, b]) ∨ (∃ nm a b, OkF N a ∧ OkF N b ∧ f = .mk 7 nm [a, b]) ∨ (∃ nm a, OkF N a ∧ f = .mk 8 nm [a]) ∨ (∃ nm a, OkF N a ∧ f = .mk 9 nm [a]) := by
 cases h with
 | mk h hN g =>
  rename_i k nm l
  unfold kidsN at h
  have hk : k = 1 ∨ k = 2 ∨ k = 3 ∨ k = 4 ∨ k = 5 ∨ k = 6 ∨ k = 7 ∨ k = 8 ∨ k = 9 := by
   (repeat' split at h) <;> omega
  rcases hk with rfl | rfl | rfl | rfl | rfl | rfl | rfl | rfl | rfl <;> simp at h
  ·subst h; exact .inl ⟨nm, hN rfl, rfl⟩
  ·subst h; exact .inr (.inl ⟨nm, rfl⟩)
  ·subst h; exact .inr (.inr (.inl ⟨nm, rfl⟩))
  ·match l, h with | [a], _ => exact .inr (.inr (.inr (.inl ⟨nm, a, g a (by simp), rfl⟩)))
  ·match l, h with | [a, b], _ => exact .inr (.inr (.inr (.inr (.inl ⟨nm, a, b, g a (by simp), g b (by simp), rfl⟩))))
  ·match l, h with | [a, b], _ => exact .inr (.inr (.inr (.inr (.inr (.inl ⟨nm, a, b, g a (by simp), g b (by simp), rfl⟩)))))
  ·match l, h with | [a, b], _ => exact .inr (.inr (.inr (.inr (.inr (.inr (.inl ⟨nm, a, b, g a (by simp), g b (by simp), rfl⟩))))))
  ·match l, h with | [a], _ => exact .inr (.inr (.inr (.inr (.inr (.inr (.inr (.inl ⟨nm, a, g a (by simp), rfl⟩)))))))
  ·match l, h with | [a], _ => exact .inr (.inr (.inr (.inr (.inr (.inr (.inr (.inr ⟨nm, a, g a (by simp), rfl⟩)))))))
theorem take_snoc {α : Type} {l : List α} {i : Nat} (h : i < l.length) : l.take (i + 1) = l.take i ++ [l[i]] := by
 rw [List.take_add_one, List.getElem?_eq_getElem h]; rfl
theorem OkF.kid {N : ByteArray → Prop} {f g : Fm} (h : OkF N f) (hg : g ∈ f.kids) : OkF N g := by
 cases h with | mk a b c => exact c g hg
def eqL (r : Fm → Fm → Bool) : List Fm → List Fm → Bool
 | [], [] => true
 | a :: xs, b :: bs => r a b && eqL r xs bs
 | _, _ => false
theorem eqL_len {r : Fm → Fm → Bool} : ∀ {xs bs : List Fm}, xs.length ≠ bs.length → eqL r xs bs = false
 | [], [], h => absurd rfl h
 | [], _ :: _, _ => rfl
 | _ :: _, [], _ => rfl
 | a :: xs, b :: bs, h => by rw [eqL, eqL_len (xs := xs) (bs := bs) (by simpa using h), Bool.and_false]
theorem eqL_drop {r : Fm → Fm → Bool} {xs bs : List Fm} {i : Nat} (h : i < xs.length) (h' : i < bs.length) : eqL r (xs.drop i) (bs.drop i) = (r xs[i] bs[i] && eqL r (xs.drop (i + 1)) (bs.drop (i + 1))) := by
 rw [List.drop_eq_getElem_cons h, List.drop_eq_getElem_cons h', eqL]
noncomputable def sameB (f g : Fm) : Bool := @decide (f = g) (Classical.propDecidable _)
theorem sameB_iff {f g : Fm} : sameB f g = true ↔ f = g := by simp [sameB]
theorem eqL_same : ∀ xs bs : List Fm, eqL sameB xs bs = true ↔ xs = bs
 | [], [] => by simp [eqL]
 | [], _ :: _ => by simp [eqL]
 | _ :: _, [] => by simp [eqL]
 | a :: xs, b :: bs => by simp [eqL, sameB_iff, eqL_same xs bs]
theorem sameB_eq (f g : Fm) : sameB f g = (decide (f.kind = g.kind) && decide (f.name = g.name) && eqL sameB f.kids g.kids) := by
 rw [Bool.eq_iff_iff, sameB_iff, Bool.and_eq_true, Bool.and_eq_true, decide_eq_true_iff, decide_eq_true_iff, eqL_same]
 cases f; cases g
 simp [and_assoc]
theorem pres_mem {x g : Fm} (hx : x ∈ pre g) : ∀ l : List Fm, g ∈ l → x ∈ pres l
 | a :: r, h => by
  rw [pres_cons, List.mem_append]
  cases h with
  | head => exact .inl hx
  | tail _ h => exact .inr (pres_mem hx r h)
theorem mem_pres {x : Fm} : ∀ l : List Fm, x ∈ pres l → ∃ g ∈ l, x ∈ pre g
 | [], h => by rw [pres_nil] at h; cases h
 | a :: r, h => by
  rw [pres_cons, List.mem_append] at h
  rcases h with h | h
  ·exact ⟨a, by simp, h⟩
  ·obtain ⟨g, h1, h2⟩ := mem_pres r h; exact ⟨g, by simp [h1], h2⟩
theorem pres_len {g : Fm} : ∀ l : List Fm, g ∈ l → (pre g).length ≤ (pres l).length
 | a :: r, h => by
  rw [pres_cons, List.length_append]
  cases h with
  | head => omega
  | tail _ h => have := pres_len r h; omega
theorem pre_sub {N : ByteArray → Prop} (f : Fm) (hf : OkF N f) : ∀ x ∈ pre f, OkF N x ∧ (pre x).length ≤ (pre f).length ∧ ∀ y ∈ pre x, y ∈ pre f := by
 induction f using Fm.ind with
 | h f ih =>
  intro x hx
  rw [pre_eq] at hx
  cases hx with
  | head => exact ⟨hf, Nat.le_refl _, fun y h => h⟩
  | tail _ hx =>
   obtain ⟨g, h1, h2⟩ := mem_pres _ hx
   obtain ⟨h3, h4, h5⟩ := ih g h1 (hf.kid h1) x h2
   refine ⟨h3, ?_, fun y hy => ?_⟩
   ·have := pres_len _ h1
    rw [pre_eq f]; simp; omega
   ·rw [pre_eq f]; exact List.mem_cons_of_mem _ (pres_mem (h5 y hy) _ h1)
def Td (f : Fm) : Prop := ∀ x ∈ pre f, okN x
theorem Td.kid {f g : Fm} (h : Td f) (hg : g ∈ f.kids) : Td g := fun x hx => h x (by rw [pre_eq]; exact List.mem_cons_of_mem _ (pres_mem hx _ hg))
theorem Td.ok {f : Fm} (h : Td f) : OkF (fun n => isNameB n = true) f := okF_of_pre f h
theorem Td.nine {f : Fm} (h : Td f) : (∃ nm, isNameB nm = true ∧ f = .mk 1 nm []) ∨ (f = .mk 2 ⟨#[]⟩ []) ∨ (f = .mk 3 ⟨#[]⟩ []) ∨ (∃ a, Td a ∧ f = .mk 4 ⟨#[]⟩ [a]) ∨ (∃ a b, Td a ∧ Td b ∧ f = .mk 5 ⟨#[]⟩ [a, b]) ∨
  (∃ a b, Td a ∧ Td b ∧ f = .mk 6 ⟨#[]⟩ [a, b]) ∨ (∃ a b, Td a ∧ Td b ∧ f = .mk 7 ⟨#[]⟩ [a, b]) ∨ (∃ a, Td a ∧ f = .mk 8 ⟨#[]⟩ [a]) ∨ (∃ a, Td a ∧ f = .mk 9 ⟨#[]⟩ [a]) := by
 have hn := (h f (by rw [pre_eq]; exact List.mem_cons_self)).2.2
 rcases h.ok.nine with ⟨nm, hN, rfl⟩ | ⟨nm, rfl⟩ | ⟨nm, rfl⟩ | ⟨nm, a, ha, rfl⟩ | ⟨nm, a, b, ha, hb, rfl⟩ | ⟨nm, a, b, ha, hb, rfl⟩ | ⟨nm, a, b, ha, hb, rfl⟩ | ⟨nm, a, ha, rfl⟩ | ⟨nm, a, ha, rfl⟩
 all_goals simp only [Fm.kind, Fm.name] at hn
 ·exact .inl ⟨nm, hN, rfl⟩
 all_goals obtain rfl : nm = ⟨#[]⟩ := by (refine Classical.byContradiction fun g => hn (.inr ⟨by decide, g⟩))
 ·exact .inr (.inl rfl)
 ·exact .inr (.inr (.inl rfl))
 ·exact .inr (.inr (.inr (.inl ⟨a, h.kid (by simp [Fm.kids]), rfl⟩)))
 ·exact .inr (.inr (.inr (.inr (.inl ⟨a, b, h.kid (by simp [Fm.kids]), h.kid (by simp [Fm.kids]), rfl⟩))))
 ·exact .inr (.inr (.inr (.inr (.inr (.inl ⟨a, b, h.kid (by simp [Fm.kids]), h.kid (by simp [Fm.kids]), rfl⟩)))))
 ·exact .inr (.inr (.inr (.inr (.inr (.inr (.inl ⟨a, b, h.kid (by simp [Fm.kids]), h.kid (by simp [Fm.kids]), rfl⟩))))))
 ·exact .inr (.inr (.inr (.inr (.inr (.inr (.inr (.inl ⟨a, h.kid (by simp [Fm.kids]), rfl⟩)))))))
 ·exact .inr (.inr (.inr (.inr (.inr (.inr (.inr (.inr ⟨a, h.kid (by simp [Fm.kids]), rfl⟩)))))))
theorem Td.pre {f x : Fm} (h : Td f) (hx : x ∈ pre f) : Td x := fun y hy => h y ((pre_sub f h.ok x hx).2.2 y hy)
section
variable {n : Nat} {t : Nat → Nat → Bool} {hold : Nat → ByteArray → Bool} {w : Nat} {nm : ByteArray} {l : List Fm} {a b : Fm}
end
theorem walkK_take (l : List Fm) (ih : ∀ f ∈ l, ∀ m : Nat, walkL f (m : Int) = (pre f).take (m + 1)) : ∀ (out : List Fm) (m : Nat), out.length ≤ m + 1 → walkK l out (m : Int) = (out ++ pres l).take (m + 1) := by
 induction l with
 | nil => intro out m h; rw [walkK, pres_nil, List.append_nil, List.take_of_length_le h]
 | cons f r ih2 =>
  intro out m h
  rw [walkK]
  split
  ·rename_i h1
   have hm : (m : Int) - out.length = ((m - out.length : Nat) : Int) := by omega
   rw [hm, ih f (by simp), ih2 (fun g hg => ih g (by simp [hg])) _ _ (by simp; omega), pres_cons]
   rw [List.append_assoc, List.take_append, List.take_append, List.take_append, List.take_append, List.take_take, List.length_take]
   have e1 : min (m + 1 - out.length) (m - out.length + 1) = m + 1 - out.length := by omega
   have e2 : m + 1 - out.length - min (m - out.length + 1) (pre f).length = m + 1 - out.length - (pre f).length := by omega
   rw [e1, e2]
  ·rw [List.take_append, List.take_of_length_le h, show m + 1 - out.length = 0 by omega, List.take_zero, List.append_nil]
theorem walk_take (f : Fm) : ∀ m : Nat, walkL f (m : Int) = (pre f).take (m + 1) := by
 induction f using Fm.ind with
 | h f ih => intro m; rw [walkL_eq, walkK_take _ ih [f] m (by simp), pre_eq]; rfl
theorem pres_ge : ∀ l : List Fm, l.length ≤ (pres l).length
 | [] => by simp
 | f :: r => by rw [pres_cons, pre_eq]; have := pres_ge r; simp; omega
theorem nodesGo_take (M : Nat) : ∀ (n : Nat) (st : List Fm), n ≤ M + 1 → nodesGo M n st = (pres st).take n := by
 intro n
 induction n with
 | zero => intro st h; rw [List.take_zero]; cases st <;> rfl
 | succ n ih =>
  intro st h
  cases st with
  | nil => rw [nodesGo_nil, pres_nil]; rfl
  | cons x r =>
   rw [nodesGo_succ, ih _ (by omega), pres_head, List.take_succ_cons]
   congr 1
   by_cases hx : x.kids.length ≤ M
   ·rw [List.take_of_length_le hx]
   ·have e : pres (x.kids ++ r) = pres (x.kids.take M) ++ (pres (x.kids.drop M) ++ pres r) := by
     rw [← List.append_assoc, ← pres_append, List.take_append_drop, pres_append]
    have hl : n ≤ (pres (x.kids.take M)).length := by
     have := pres_ge (x.kids.take M); rw [List.length_take] at this; omega
    rw [e, pres_append, List.take_append_of_le_length hl, List.take_append_of_le_length hl]
end Go.Proofs.Ytkadceiolddmhaa
namespace Go.Proofs.Ytkadceiolddmhaa
open Go Go.Pv
theorem nodesGo_len (M : Nat) : ∀ (n : Nat) (st : List Fm), (nodesGo M n st).length ≤ n
 | 0, st => by simp [nodesGo]
 | n + 1, [] => by simp [nodesGo]
 | n + 1, x :: r => by rw [nodesGo_succ]; have := nodesGo_len M n (x.kids.take M ++ r); simp; omega
end Go.Proofs.Ytkadceiolddmhaa
