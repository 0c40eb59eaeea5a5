/-
  kripke.Check, told without memory.
-/
import Derived.Test.YtbmpmmbcfabeeaaFormA
namespace Go.Proofs.Ytbmpmmbcfabeeaa
open Go Go.Pv
set_option linter.unusedVariables false
set_option linter.unusedSimpArgs false
set_option maxRecDepth 100000
set_option maxHeartbeats 4000000

theorem fault_kripke (c a : Int) (s : Store) : CallOK Try.prog 122 [.int .i64 c, .int .i64 a] s (.agg [.int .i64 c, .int .i64 a]) s := by
  refine CallOK.frame ?_ ?_
  · refine callOK_of Try.func122 rfl rfl Try.ntmps122 (by simp) ?_
    rw [Try.results122]
    dsimp only [light, regL, dsts, lopsL, lop, nth]
    (have F_ := True.intro); repeat' (first | (with_reducible refine stp ?_) | (with_reducible refine hq _ _ ?_; clear hq q) | (with_reducible refine hk _ _ ?_; clear hk k) | (with_reducible refine EvL.regA (fun k hk => ?_)) | ((with_reducible apply WOps.call); (· fail)) | (with_reducible refine WOps.auto F_ (fun q hq => ?_)) | ((with_reducible refine EvL.condA ?_ ?_); all_goals (intro h <;> (try simp only [hna, hnb, hnc, ne_eq, reduceCtorEq, Int.reduceEq, gt_iff_lt, ge_iff_le] at h) <;> (try (exfalso; omega; done)))) | (with_reducible refine EvL.drawnA (fun k hk => ?_)) | (with_reducible refine EvL.mixA (fun k hk => ?_)) | (with_reducible refine EvL.mix2A (fun k hk => ?_)) | (with_reducible refine WMix.bothA F_ ?_ ?_) | (with_reducible refine WOps.takeA ?_) | (with_reducible refine WOps.passA ?_) | ((with_reducible refine WOps.splitA ?_ ?_); all_goals (intro h <;> simp only [h] <;> (try simp only [hna, hnb, hnc, ne_eq, reduceCtorEq, Int.reduceEq, gt_iff_lt, ge_iff_le] at h) <;> (try (exfalso; omega; done)))) | (with_reducible refine WMix.takeA ?_) | (with_reducible refine WMix.passA ?_) | (with_reducible refine WMix.consA F_ ?_) | (with_reducible refine WMix.makeA F_ ?_) | ((with_reducible refine And.intro ?_ ?_); (· omega)) | ((with_reducible refine And.intro (fun h => ?_) (fun h => ?_)) <;> (try simp only [Decidable.not_not] at h) <;> (try simp only [h])) | (with_reducible intro hl))
    (refine finA ?_; try exact trivial)
  · simp [flat_int, Flat.closed]

def flt (c a : Int) : PV := .agg [.int .i64 c, .int .i64 a]
theorem flt_eq : ∀ c a : Int, flt c a = .agg [.int .i64 c, .int .i64 a] := fun _ _ => rfl
def relFault (n : Int) : List (Int × Int) → Int → Option (Int × Int)
  | [], _ => none
  | p :: r, i => if min p.1 p.2 < 0 ∨ max p.1 p.2 ≥ n then some (3, i) else relFault n r (i + 1)
def trFault : List (List ByteArray) → Int → Option (Int × Int)
  | [], _ => none
  | l :: r, i => if 30 < l.length then some (2, i) else if l.all isNameB then trFault r (i + 1) else some (8, i)
def kripkeCheck (m : Mdl) : Int × Int :=
  if m.n < 1 ∨ m.n > 40 ∨ m.rel.length > 2000 then (2, 0) else
  if (m.tr.length : Int) ≠ m.n then (9, 0) else
  ((relFault m.n m.rel 0).orElse fun _ => trFault m.tr 0).getD (0, 0)

theorem relFault_drop (n : Int) (l : List (Int × Int)) (i : Nat) (h : i < l.length) (j : Int) : relFault n (l.drop i) j = if min l[i].1 l[i].2 < 0 ∨ max l[i].1 l[i].2 ≥ n then some (3, j) else relFault n (l.drop (i + 1)) (j + 1) := by
  rw [List.drop_eq_getElem_cons h, relFault]
theorem trFault_drop (l : List (List ByteArray)) (i : Nat) (h : i < l.length) (j : Int) : trFault (l.drop i) j = if 30 < l[i].length then some (2, j) else if l[i].all isNameB then trFault (l.drop (i + 1)) (j + 1) else some (8, j) := by
  rw [List.drop_eq_getElem_cons h, trFault]
theorem check_kripke (m : Mdl) (s : Store) : CallOK Try.prog 86 [.agg (mdl m)] s (flt (kripkeCheck m).1 (kripkeCheck m).2) s := by
  refine CallOK.frame ?_ ?_
  · refine callOK_of Try.func86 rfl rfl Try.ntmps86 (by simp) ?_
    rw [Try.results86]
    dsimp only [light, regL, dsts, lopsL, lop, nth]
    have hmax : maxLen = 9223372036854775807 := rfl
    unfold mdl
    (have F_ := True.intro); repeat' (first | (with_reducible refine stp ?_) | (with_reducible refine hq _ _ ?_; clear hq q) | (with_reducible refine hk _ _ ?_; clear hk k) | (with_reducible refine EvL.regA (fun k hk => ?_)) | ((with_reducible apply WOps.call); (· exact dOK); (· exact vOK); (· first | assumption | exact EnT.h); (· exact argsOK (x := by first | exact fault_kripke _ _ _))) | (with_reducible refine WOps.auto F_ (fun q hq => ?_)) | ((with_reducible refine EvL.condA ?_ ?_); all_goals (intro h <;> (try simp only [hna, hnb, hnc, ne_eq, reduceCtorEq, Int.reduceEq, gt_iff_lt, ge_iff_le] at h) <;> (try (exfalso; omega; done)))) | (with_reducible refine EvL.drawnA (fun k hk => ?_)) | (with_reducible refine EvL.mixA (fun k hk => ?_)) | (with_reducible refine EvL.mix2A (fun k hk => ?_)) | (with_reducible refine WMix.bothA F_ ?_ ?_) | (with_reducible refine WOps.takeA ?_) | (with_reducible refine WOps.passA ?_) | ((with_reducible refine WOps.splitA ?_ ?_); all_goals (intro h <;> simp only [h] <;> (try simp only [hna, hnb, hnc, ne_eq, reduceCtorEq, Int.reduceEq, gt_iff_lt, ge_iff_le] at h) <;> (try (exfalso; omega; done)))) | (with_reducible refine WMix.takeA ?_) | (with_reducible refine WMix.passA ?_) | ((with_reducible apply WMix.cons); (· exact dOK); (· decide); (· intro t; (with_reducible apply WG.call); (· exact vOK); (· first | assumption | exact EnT.h); (· exact argsOK (x := by first | exact fault_kripke _ _ _)))) | (with_reducible refine WMix.consA F_ ?_) | (with_reducible refine WMix.makeA F_ ?_) | ((with_reducible refine And.intro ?_ ?_); (· omega)) | ((with_reducible refine And.intro (fun h => ?_) (fun h => ?_)) <;> (try simp only [Decidable.not_not] at h) <;> (try simp only [h])) | (with_reducible intro hl))
    all_goals first | ((refine finA ?_; try exact trivial); simp only [flt, kripkeCheck, PV.agg.injEq, List.cons.injEq, PV.int.injEq, true_and, and_true]; (first | rw [if_pos (by omega)] | (rw [if_neg (by omega), if_pos (by omega)])); exact ⟨rfl, rfl⟩; done) | skip
    have h1 : ¬ (m.n < 1 ∨ m.n > 40 ∨ m.rel.length > 2000) := by omega
    have h2 : ¬ (m.tr.length : Int) ≠ m.n := by omega
    have hk : kripkeCheck m = ((relFault m.n m.rel 0).orElse fun _ => trFault m.tr 0).getD (0, 0) := by
      unfold kripkeCheck; rw [if_neg h1, if_neg h2]
    rw [hk]
    refine EvL.loop (X := Nat) (fun i => [(1, .ptr 0 0 0), (2, .ptr 1 0 0), (32, .list (m.rel.map relRow)), (33, .int .i64 (m.rel.length : Int)), (34, .int .i64 (i : Int))])
      (fun i => [.rows 3 [mdl m], .rows 2 [[.int .i64 0, .int .i64 0]]]) (fun i => i ≤ m.rel.length ∧ relFault m.n m.rel 0 = relFault m.n (m.rel.drop i) i) (fun i => m.rel.length - i) 0 ⟨by omega, rfl⟩
      (View.of [0, 1] _ (by simp) (by decide) (by unfold mdl; (refine vw ?_; try exact trivial)) (by (refine vw ?_; try exact trivial))) (fun i hi => ?_)
    unfold mdl
    by_cases hlt : i < m.rel.length
    · have hrow : (m.rel.map relRow)[i]? = some (relRow m.rel[i]) := map_get _ _ _ _ (List.getElem?_eq_getElem hlt)
      have hw := wrap_up i (by omega)
      have hd := relFault_drop m.n m.rel i hlt i
      (have F_ := And.intro @hrow (And.intro @relRow_eq (@hw))); repeat' (first | (with_reducible refine stp ?_) | (with_reducible refine hq _ _ ?_; clear hq q) | (with_reducible refine hk _ _ ?_; clear hk k) | (with_reducible refine EvL.regA (fun k hk => ?_)) | ((with_reducible apply WOps.call); (· exact dOK); (· exact vOK); (· first | assumption | exact EnT.h); (· exact argsOK (x := by first | exact fault_kripke _ _ _))) | (with_reducible refine WOps.auto F_ (fun q hq => ?_)) | ((with_reducible refine EvL.condA ?_ ?_); all_goals (intro h <;> (try simp only [hna, hnb, hnc, ne_eq, reduceCtorEq, Int.reduceEq, gt_iff_lt, ge_iff_le] at h) <;> (try (exfalso; omega; done)))) | (with_reducible refine EvL.drawnA (fun k hk => ?_)) | (with_reducible refine EvL.mixA (fun k hk => ?_)) | (with_reducible refine EvL.mix2A (fun k hk => ?_)) | (with_reducible refine WMix.bothA F_ ?_ ?_) | (with_reducible refine WOps.takeA ?_) | (with_reducible refine WOps.passA ?_) | ((with_reducible refine WOps.splitA ?_ ?_); all_goals (intro h <;> simp only [h] <;> (try simp only [hna, hnb, hnc, ne_eq, reduceCtorEq, Int.reduceEq, gt_iff_lt, ge_iff_le] at h) <;> (try (exfalso; omega; done)))) | (with_reducible refine WMix.takeA ?_) | (with_reducible refine WMix.passA ?_) | ((with_reducible apply WMix.cons); (· exact dOK); (· decide); (· intro t; (with_reducible apply WG.call); (· exact vOK); (· first | assumption | exact EnT.h); (· exact argsOK (x := by first | exact fault_kripke _ _ _)))) | (with_reducible refine WMix.consA F_ ?_) | (with_reducible refine WMix.makeA F_ ?_) | ((with_reducible refine And.intro ?_ ?_); (· omega)) | ((with_reducible refine And.intro (fun h => ?_) (fun h => ?_)) <;> (try simp only [Decidable.not_not] at h) <;> (try simp only [h])) | (with_reducible intro hl))
      all_goals first | ((refine finA ?_; try exact trivial); rw [hi.2, hd, if_pos (by omega)]; rfl) | skip
      refine ⟨i + 1, ⟨by omega, ?_⟩, by omega, View.of [0, 1] _ (by simp) (by decide) (by (refine vw ?_; try exact trivial)) (by (refine vw ?_; try exact trivial))⟩
      rw [hi.2, hd, if_neg (by omega)]; rfl
    · have hd : m.rel.drop i = [] := List.drop_eq_nil_of_le (by omega)
      have hr : relFault m.n m.rel 0 = none := by rw [hi.2, hd]; rfl
      rw [hr]
      (have F_ := @relRow_eq); repeat' (first | (with_reducible refine stp ?_) | (with_reducible refine hq _ _ ?_; clear hq q) | (with_reducible refine hk _ _ ?_; clear hk k) | (with_reducible refine EvL.regA (fun k hk => ?_)) | ((with_reducible apply WOps.call); (· exact dOK); (· exact vOK); (· first | assumption | exact EnT.h); (· exact argsOK (x := by first | exact fault_kripke _ _ _))) | (with_reducible refine WOps.auto F_ (fun q hq => ?_)) | ((with_reducible refine EvL.condA ?_ ?_); all_goals (intro h <;> (try simp only [hna, hnb, hnc, ne_eq, reduceCtorEq, Int.reduceEq, gt_iff_lt, ge_iff_le] at h) <;> (try (exfalso; omega; done)))) | (with_reducible refine EvL.drawnA (fun k hk => ?_)) | (with_reducible refine EvL.mixA (fun k hk => ?_)) | (with_reducible refine EvL.mix2A (fun k hk => ?_)) | (with_reducible refine WMix.bothA F_ ?_ ?_) | (with_reducible refine WOps.takeA ?_) | (with_reducible refine WOps.passA ?_) | ((with_reducible refine WOps.splitA ?_ ?_); all_goals (intro h <;> simp only [h] <;> (try simp only [hna, hnb, hnc, ne_eq, reduceCtorEq, Int.reduceEq, gt_iff_lt, ge_iff_le] at h) <;> (try (exfalso; omega; done)))) | (with_reducible refine WMix.takeA ?_) | (with_reducible refine WMix.passA ?_) | ((with_reducible apply WMix.cons); (· exact dOK); (· decide); (· intro t; (with_reducible apply WG.call); (· exact vOK); (· first | assumption | exact EnT.h); (· exact argsOK (x := by first | exact fault_kripke _ _ _)))) | (with_reducible refine WMix.consA F_ ?_) | (with_reducible refine WMix.makeA F_ ?_) | ((with_reducible refine And.intro ?_ ?_); (· omega)) | ((with_reducible refine And.intro (fun h => ?_) (fun h => ?_)) <;> (try simp only [Decidable.not_not] at h) <;> (try simp only [h])) | (with_reducible intro hl))
      show EvL _ _ _ _ _ _ _
      refine EvL.loop (X := Nat) (fun i => [(2, .ptr 1 0 0), (59, .list (m.tr.map strsRow)), (60, .int .i64 (m.tr.length : Int)), (61, .int .i64 (i : Int))])
        (fun i => [.rows 3 [mdl m], .rows 2 [[.int .i64 0, .int .i64 0]]]) (fun i => i ≤ m.tr.length ∧ trFault m.tr 0 = trFault (m.tr.drop i) i) (fun i => m.tr.length - i) 0 ⟨by omega, rfl⟩
        (View.of [0, 1] _ (by simp) (by decide) (by unfold mdl; (refine vw ?_; try exact trivial)) (by (refine vw ?_; try exact trivial))) (fun i hi => ?_)
      unfold mdl
      by_cases hlt : i < m.tr.length
      · have hrow : (m.tr.map strsRow)[i]? = some (strsRow m.tr[i]) := map_get _ _ _ _ (List.getElem?_eq_getElem hlt)
        have hw := wrap_up i (by omega)
        have hd := trFault_drop m.tr i hlt i
        (have F_ := And.intro @hrow (And.intro @strsRow_eq (@hw))); repeat' (first | (with_reducible refine stp ?_) | (with_reducible refine hq _ _ ?_; clear hq q) | (with_reducible refine hk _ _ ?_; clear hk k) | (with_reducible refine EvL.regA (fun k hk => ?_)) | ((with_reducible apply WOps.call); (· exact dOK); (· exact vOK); (· first | assumption | exact EnT.h); (· exact argsOK (x := by first | exact fault_kripke _ _ _))) | (with_reducible refine WOps.auto F_ (fun q hq => ?_)) | ((with_reducible refine EvL.condA ?_ ?_); all_goals (intro h <;> (try simp only [hna, hnb, hnc, ne_eq, reduceCtorEq, Int.reduceEq, gt_iff_lt, ge_iff_le] at h) <;> (try (exfalso; omega; done)))) | (with_reducible refine EvL.drawnA (fun k hk => ?_)) | (with_reducible refine EvL.mixA (fun k hk => ?_)) | (with_reducible refine EvL.mix2A (fun k hk => ?_)) | (with_reducible refine WMix.bothA F_ ?_ ?_) | (with_reducible refine WOps.takeA ?_) | (with_reducible refine WOps.passA ?_) | ((with_reducible refine WOps.splitA ?_ ?_); all_goals (intro h <;> simp only [h] <;> (try simp only [hna, hnb, hnc, ne_eq, reduceCtorEq, Int.reduceEq, gt_iff_lt, ge_iff_le] at h) <;> (try (exfalso; omega; done)))) | (with_reducible refine WMix.takeA ?_) | (with_reducible refine WMix.passA ?_) | ((with_reducible apply WMix.cons); (· exact dOK); (· decide); (· intro t; (with_reducible apply WG.call); (· exact vOK); (· first | assumption | exact EnT.h); (· exact argsOK (x := by first | exact fault_kripke _ _ _)))) | (with_reducible refine WMix.consA F_ ?_) | (with_reducible refine WMix.makeA F_ ?_) | ((with_reducible refine And.intro ?_ ?_); (· omega)) | ((with_reducible refine And.intro (fun h => ?_) (fun h => ?_)) <;> (try simp only [Decidable.not_not] at h) <;> (try simp only [h])) | (with_reducible intro hl))
        all_goals first | ((refine finA ?_; try exact trivial); rw [hi.2, hd, if_pos (by omega)]; rfl) | skip
        refine EvL.loop (X := Nat) (fun j => [(2, .ptr 1 0 0), (5, .int .i64 (i : Int)), (59, .list (m.tr.map strsRow)), (60, .int .i64 (m.tr.length : Int)), (61, .int .i64 (i : Int)), (71, .list (m.tr[i].map strRow)), (72, .int .i64 (m.tr[i].length : Int)), (73, .int .i64 (j : Int))])
          (fun j => [.rows 3 [mdl m], .rows 2 [[.int .i64 0, .int .i64 0]]]) (fun j => j ≤ m.tr[i].length ∧ m.tr[i].all isNameB = (m.tr[i].drop j).all isNameB) (fun j => m.tr[i].length - j) 0 ⟨by omega, rfl⟩
          (View.of [0, 1] _ (by simp) (by decide) (by unfold mdl; (refine vw ?_; try exact trivial)) (by (refine vw ?_; try exact trivial))) (fun j hj => ?_)
        unfold mdl
        by_cases hjl : j < m.tr[i].length
        · have hrow2 : (m.tr[i].map strRow)[j]? = some (strRow m.tr[i][j]) := map_get _ _ _ _ (List.getElem?_eq_getElem hjl)
          have hw2 := wrap_up j (by omega)
          have hd2 : (m.tr[i].drop j).all isNameB = (isNameB m.tr[i][j] && (m.tr[i].drop (j + 1)).all isNameB) := by rw [List.drop_eq_getElem_cons hjl, List.all_cons]
          (have F_ := And.intro @hrow2 (And.intro @strRow_eq (@hw2))); repeat' (first | (with_reducible refine stp ?_) | (with_reducible refine hq _ _ ?_; clear hq q) | (with_reducible refine hk _ _ ?_; clear hk k) | (with_reducible refine EvL.regA (fun k hk => ?_)) | ((with_reducible apply WOps.call); (· exact dOK); (· exact vOK); (· first | assumption | exact EnT.h); (· exact argsOK (x := by first | exact fault_kripke _ _ _ | exact isName_formula _ _))) | (with_reducible refine WOps.auto F_ (fun q hq => ?_)) | ((with_reducible refine EvL.condA ?_ ?_); all_goals (intro h <;> (try simp only [hna, hnb, hnc, ne_eq, reduceCtorEq, Int.reduceEq, gt_iff_lt, ge_iff_le] at h) <;> (try (exfalso; omega; done)))) | (with_reducible refine EvL.drawnA (fun k hk => ?_)) | (with_reducible refine EvL.mixA (fun k hk => ?_)) | (with_reducible refine EvL.mix2A (fun k hk => ?_)) | (with_reducible refine WMix.bothA F_ ?_ ?_) | (with_reducible refine WOps.takeA ?_) | (with_reducible refine WOps.passA ?_) | ((with_reducible refine WOps.splitA ?_ ?_); all_goals (intro h <;> simp only [h] <;> (try simp only [hna, hnb, hnc, ne_eq, reduceCtorEq, Int.reduceEq, gt_iff_lt, ge_iff_le] at h) <;> (try (exfalso; omega; done)))) | (with_reducible refine WMix.takeA ?_) | (with_reducible refine WMix.passA ?_) | ((with_reducible apply WMix.cons); (· exact dOK); (· decide); (· intro t; (with_reducible apply WG.call); (· exact vOK); (· first | assumption | exact EnT.h); (· exact argsOK (x := by first | exact fault_kripke _ _ _ | exact isName_formula _ _)))) | (with_reducible refine WMix.consA F_ ?_) | (with_reducible refine WMix.makeA F_ ?_) | ((with_reducible refine And.intro ?_ ?_); (· omega)) | ((with_reducible refine And.intro (fun h => ?_) (fun h => ?_)) <;> (try simp only [Decidable.not_not] at h) <;> (try simp only [h])) | (with_reducible intro hl))
          · (refine finA ?_; try exact trivial)
            rw [hi.2, hd, if_neg (by omega), hj.2, hd2, h]; rfl
          · refine ⟨j + 1, ⟨by omega, ?_⟩, by omega, View.of [0, 1] _ (by simp) (by decide) (by (refine vw ?_; try exact trivial)) (by (refine vw ?_; try exact trivial))⟩
            rw [hj.2, hd2, h, Bool.true_and]
        · have he2 : m.tr[i].drop j = [] := List.drop_eq_nil_of_le (by omega)
          (have F_ := @hw); repeat' (first | (with_reducible refine stp ?_) | (with_reducible refine hq _ _ ?_; clear hq q) | (with_reducible refine hk _ _ ?_; clear hk k) | (with_reducible refine EvL.regA (fun k hk => ?_)) | ((with_reducible apply WOps.call); (· exact dOK); (· exact vOK); (· first | assumption | exact EnT.h); (· exact argsOK (x := by first | exact fault_kripke _ _ _ | exact isName_formula _ _))) | (with_reducible refine WOps.auto F_ (fun q hq => ?_)) | ((with_reducible refine EvL.condA ?_ ?_); all_goals (intro h <;> (try simp only [hna, hnb, hnc, ne_eq, reduceCtorEq, Int.reduceEq, gt_iff_lt, ge_iff_le] at h) <;> (try (exfalso; omega; done)))) | (with_reducible refine EvL.drawnA (fun k hk => ?_)) | (with_reducible refine EvL.mixA (fun k hk => ?_)) | (with_reducible refine EvL.mix2A (fun k hk => ?_)) | (with_reducible refine WMix.bothA F_ ?_ ?_) | (with_reducible refine WOps.takeA ?_) | (with_reducible refine WOps.passA ?_) | ((with_reducible refine WOps.splitA ?_ ?_); all_goals (intro h <;> simp only [h] <;> (try simp only [hna, hnb, hnc, ne_eq, reduceCtorEq, Int.reduceEq, gt_iff_lt, ge_iff_le] at h) <;> (try (exfalso; omega; done)))) | (with_reducible refine WMix.takeA ?_) | (with_reducible refine WMix.passA ?_) | ((with_reducible apply WMix.cons); (· exact dOK); (· decide); (· intro t; (with_reducible apply WG.call); (· exact vOK); (· first | assumption | exact EnT.h); (· exact argsOK (x := by first | exact fault_kripke _ _ _ | exact isName_formula _ _)))) | (with_reducible refine WMix.consA F_ ?_) | (with_reducible refine WMix.makeA F_ ?_) | ((with_reducible refine And.intro ?_ ?_); (· omega)) | ((with_reducible refine And.intro (fun h => ?_) (fun h => ?_)) <;> (try simp only [Decidable.not_not] at h) <;> (try simp only [h])) | (with_reducible intro hl))
          have hall : m.tr[i].all isNameB = true := by rw [hj.2, he2]; rfl
          refine ⟨i + 1, ⟨by omega, ?_⟩, by omega, View.of [0, 1] _ (by simp) (by decide) (by (refine vw ?_; try exact trivial)) (by (refine vw ?_; try exact trivial))⟩
          rw [hi.2, hd, if_neg (by omega), hall, if_pos rfl]; rfl
      · have hd : m.tr.drop i = [] := List.drop_eq_nil_of_le (by omega)
        have hr2 : trFault m.tr 0 = none := by rw [hi.2, hd]; rfl
        rw [hr2]
        (have F_ := @strsRow_eq); repeat' (first | (with_reducible refine stp ?_) | (with_reducible refine hq _ _ ?_; clear hq q) | (with_reducible refine hk _ _ ?_; clear hk k) | (with_reducible refine EvL.regA (fun k hk => ?_)) | ((with_reducible apply WOps.call); (· exact dOK); (· exact vOK); (· first | assumption | exact EnT.h); (· exact argsOK (x := by first | exact fault_kripke _ _ _))) | (with_reducible refine WOps.auto F_ (fun q hq => ?_)) | ((with_reducible refine EvL.condA ?_ ?_); all_goals (intro h <;> (try simp only [hna, hnb, hnc, ne_eq, reduceCtorEq, Int.reduceEq, gt_iff_lt, ge_iff_le] at h) <;> (try (exfalso; omega; done)))) | (with_reducible refine EvL.drawnA (fun k hk => ?_)) | (with_reducible refine EvL.mixA (fun k hk => ?_)) | (with_reducible refine EvL.mix2A (fun k hk => ?_)) | (with_reducible refine WMix.bothA F_ ?_ ?_) | (with_reducible refine WOps.takeA ?_) | (with_reducible refine WOps.passA ?_) | ((with_reducible refine WOps.splitA ?_ ?_); all_goals (intro h <;> simp only [h] <;> (try simp only [hna, hnb, hnc, ne_eq, reduceCtorEq, Int.reduceEq, gt_iff_lt, ge_iff_le] at h) <;> (try (exfalso; omega; done)))) | (with_reducible refine WMix.takeA ?_) | (with_reducible refine WMix.passA ?_) | ((with_reducible apply WMix.cons); (· exact dOK); (· decide); (· intro t; (with_reducible apply WG.call); (· exact vOK); (· first | assumption | exact EnT.h); (· exact argsOK (x := by first | exact fault_kripke _ _ _)))) | (with_reducible refine WMix.consA F_ ?_) | (with_reducible refine WMix.makeA F_ ?_) | ((with_reducible refine And.intro ?_ ?_); (· omega)) | ((with_reducible refine And.intro (fun h => ?_) (fun h => ?_)) <;> (try simp only [Decidable.not_not] at h) <;> (try simp only [h])) | (with_reducible intro hl))
        (refine finA ?_; try exact trivial)
        rfl
  · intro a ha; simp only [List.mem_cons, List.not_mem_nil, or_false] at ha; subst ha
    exact closed_agg (by simp [mdl, flat_int, Flat.closed, closed_list])

end Go.Proofs.Ytbmpmmbcfabeeaa
