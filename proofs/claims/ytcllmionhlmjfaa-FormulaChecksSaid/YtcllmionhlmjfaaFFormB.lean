import Derived.Test.YtcllmionhlmjfaaFFormA
set_option linter.unusedVariables false
set_option linter.unusedSimpArgs false
set_option maxRecDepth 100000
set_option maxHeartbeats 4000000
namespace Go.Proofs.Ytcllmionhlmjfaa
open Go Go.Pv
def nodesGo (most : Nat) : Nat → List Fm → List Fm
 | 0, _ => []
 | _ + 1, [] => []
 | n + 1, x :: r => x :: nodesGo most n (x.kids.take most ++ r)
def stkOf (x : Fm) (most : Nat) (r : List Fm) (k : Nat) : List Fm := r.reverse ++ ((x.kids.take most).drop k).reverse
theorem stkOf_succ (x : Fm) (most : Nat) (r : List Fm) (j : Nat) (h : j < (x.kids.take most).length) (h' : j < x.kids.length) : stkOf x most r j = stkOf x most r (j + 1) ++ [x.kids[j]] := by
 unfold stkOf
 rw [List.drop_eq_getElem_cons h, List.reverse_cons, ← List.append_assoc, List.getElem_take]
theorem stkOf_full (x : Fm) (most : Nat) (r : List Fm) : stkOf x most r (x.kids.take most).length = r.reverse := by
 unfold stkOf; rw [List.drop_eq_nil_of_le (Nat.le_refl _)]; simp
theorem stkOf_zero (x : Fm) (most : Nat) (r : List Fm) : stkOf x most r 0 = (x.kids.take most ++ r).reverse := by
 unfold stkOf; simp
theorem stkOf_length (x : Fm) (most : Nat) (r : List Fm) (k : Nat) : (stkOf x most r k).length ≤ r.length + most := by
 unfold stkOf; simp; omega
theorem nodes_formula (f : Fm) (most : Nat) (hmost : most ≤ 1000) (s : Store) : CallOK Try.prog 48 [.agg (frm f), .int .i64 (most : Int)] s (.list ((nodesGo most most [f]).map frm)) s := by
 refine CallOK.frame ?_ ?_
 ·refine callOK_of Try.func48 rfl rfl Try.ntmps48 (by simp) ?_
  rw [Try.results48]
  dsimp only [light, regL, dsts, lopsL, lop, nth]
  (have F_ := And.intro @frm_length (And.intro @frm_take (And.intro @frm_drop3 (And.intro @frm_get0 (And.intro @frm_get1 (@frm_get2)))))); repeat' (first | (with_reducible refine stp ?_) | (with_reducible refine hq _ _ ?_; clear hq q) | (with_reducible refine hk _ _ ?_; clear hk k) | (with_reducible refine EvL.regA (fun k hk => ?_)) | ((with_reducible apply WOps.call); (· exact dOK); (· exact vOK); (· first | assumption | exact EnT.h); (· exact argsOK (x := by first | fail))) | (with_reducible refine WOps.auto F_ (fun q hq => ?_)) | ((with_reducible refine EvL.condA ?_ ?_); all_goals (intro h <;> (try simp only [hna, hnb, hnc, ne_eq, reduceCtorEq, Int.reduceEq, gt_iff_lt, ge_iff_le] at h) <;> (try (exfalso; omega; done)))) | (with_reducible refine EvL.drawnA (fun k hk => ?_)) | (with_reducible refine EvL.mixA (fun k hk => ?_)) | (with_reducible refine EvL.mix2A (fun k hk => ?_)) | (with_reducible refine WMix.bothA F_ ?_ ?_) | (with_reducible refine WOps.takeA ?_) | (with_reducible refine WOps.passA ?_) | ((with_reducible refine WOps.splitA ?_ ?_); all_goals (intro h <;> simp only [h] <;> (try simp only [hna, hnb, hnc, ne_eq, reduceCtorEq, Int.reduceEq, gt_iff_lt, ge_iff_le] at h) <;> (try (exfalso; omega; done)))) | (with_reducible refine WMix.takeA ?_) | (with_reducible refine WMix.passA ?_) | ((with_reducible apply WMix.cons); (· exact dOK); (· decide); (· intro t; (with_reducible apply WG.call); (· exact vOK); (· first | assumption | exact EnT.h); (· exact argsOK (x := by first | fail)))) | (with_reducible refine WMix.consA F_ ?_) | (with_reducible refine WMix.makeA F_ ?_) | ((with_reducible refine And.intro ?_ ?_); (· omega)) | ((with_reducible refine And.intro (fun h => ?_) (fun h => ?_)) <;> (try simp only [Decidable.not_not] at h) <;> (try simp only [h])) | (with_reducible intro hl))
  refine EvL.loop (X := List Fm × List Fm) (fun x => [(1, .int .i64 (most : Int)), (5, .sl 0 0 x.1.length), (6, .sl 1 0 x.2.length)]) (fun x => [.rows 3 (x.1.map frm), .rows 3 (x.2.reverse.map frm)])
   (fun x => x.1.length ≤ most ∧ x.2.length ≤ 1 + x.1.length * most ∧ nodesGo most most [f] = x.1 ++ nodesGo most (most - x.1.length) x.2) (fun x => most - x.1.length) ([], [f]) ⟨by simp, by simp, rfl⟩
   (View.of [1, 2] _ (by simp) (by decide) (by (refine vw ?_; try exact trivial); exact frms_ren _ [f]) (by (refine vw ?_; try exact trivial))) (fun x hx => ?_)
  obtain ⟨out, st⟩ := x
  obtain ⟨hx1, hx2, hx3⟩ := hx
  simp only at hx1 hx2 hx3
  have hto : (out.map frm).take out.length = out.map frm := List.take_of_length_le (by simp)
  have hmul : out.length * most ≤ 1000 * 1000 := Nat.mul_le_mul (by omega) hmost
  rcases st with _ | ⟨x, r⟩
  ·(have F_ := @frm_length); repeat' (first | (with_reducible refine stp ?_) | (with_reducible refine hq _ _ ?_; clear hq q) | (with_reducible refine hk _ _ ?_; clear hk k) | (with_reducible refine EvL.regA (fun k hk => ?_)) | ((with_reducible apply WOps.call); (· exact dOK); (· exact vOK); (· first | assumption | exact EnT.h); (· exact argsOK (x := by first | fail))) | (with_reducible refine WOps.auto F_ (fun q hq => ?_)) | ((with_reducible refine EvL.condA ?_ ?_); all_goals (intro h <;> (try simp only [hna, hnb, hnc, ne_eq, reduceCtorEq, Int.reduceEq, gt_iff_lt, ge_iff_le] at h) <;> (try (exfalso; omega; done)))) | (with_reducible refine EvL.drawnA (fun k hk => ?_)) | (with_reducible refine EvL.mixA (fun k hk => ?_)) | (with_reducible refine EvL.mix2A (fun k hk => ?_)) | (with_reducible refine WMix.bothA F_ ?_ ?_) | (with_reducible refine WOps.takeA ?_) | (with_reducible refine WOps.passA ?_) | ((with_reducible refine WOps.splitA ?_ ?_); all_goals (intro h <;> simp only [h] <;> (try simp only [hna, hnb, hnc, ne_eq, reduceCtorEq, Int.reduceEq, gt_iff_lt, ge_iff_le] at h) <;> (try (exfalso; omega; done)))) | (with_reducible refine WMix.takeA ?_) | (with_reducible refine WMix.passA ?_) | ((with_reducible apply WMix.cons); (· exact dOK); (· decide); (· intro t; (with_reducible apply WG.call); (· exact vOK); (· first | assumption | exact EnT.h); (· exact argsOK (x := by first | fail)))) | (with_reducible refine WMix.consA F_ ?_) | (with_reducible refine WMix.makeA F_ ?_) | ((with_reducible refine And.intro ?_ ?_); (· omega)) | ((with_reducible refine And.intro (fun h => ?_) (fun h => ?_)) <;> (try simp only [Decidable.not_not] at h) <;> (try simp only [h])) | (with_reducible intro hl))
   (refine finA ?_; try exact trivial)
   have hn : ∀ n, nodesGo most n [] = [] := fun n => by cases n <;> rfl
   rw [hx3, hn, List.append_nil]
   simp only [List.length_map, Nat.le_refl, if_true, hto, frms_deref]
  ·have hrow : ((x :: r).reverse.map frm)[r.length]? = some (frm x) := by simp
   have hsub : IntKind.i64.wrap ((r.length : Int) + 1 - 1) = (r.length : Int) := by rw [wrapi (by omega) (by simp at hx2; omega)]; omega
   have hsub' : IntKind.i64.wrap (r.length : Int) = (r.length : Int) := by rw [wrapi (by omega) (by simp at hx2; omega)]
   have htk : ((x :: r).reverse.map frm).take r.length = r.reverse.map frm := by simp
   simp only [List.length_cons] at hx2
   (have F_ := And.intro @hrow (And.intro @hsub (And.intro @hsub' (And.intro @htk (And.intro @hto (And.intro @frm_length (And.intro @frm_cell (And.intro @frm_take (And.intro @frm_drop3 (And.intro @frm_get0 (And.intro @frm_get1 (@frm_get2)))))))))))); repeat' (first | (with_reducible refine stp ?_) | (with_reducible refine hq _ _ ?_; clear hq q) | (with_reducible refine hk _ _ ?_; clear hk k) | (with_reducible refine EvL.regA (fun k hk => ?_)) | ((with_reducible apply WOps.call); (· exact dOK); (· exact vOK); (· first | assumption | exact EnT.h); (· exact argsOK (x := by first | fail))) | (with_reducible refine WOps.auto F_ (fun q hq => ?_)) | ((with_reducible refine EvL.condA ?_ ?_); all_goals (intro h <;> (try simp only [hna, hnb, hnc, ne_eq, reduceCtorEq, Int.reduceEq, gt_iff_lt, ge_iff_le] at h) <;> (try (exfalso; omega; done)))) | (with_reducible refine EvL.drawnA (fun k hk => ?_)) | (with_reducible refine EvL.mixA (fun k hk => ?_)) | (with_reducible refine EvL.mix2A (fun k hk => ?_)) | (with_reducible refine WMix.bothA F_ ?_ ?_) | (with_reducible refine WOps.takeA ?_) | (with_reducible refine WOps.passA ?_) | ((with_reducible refine WOps.splitA ?_ ?_); all_goals (intro h <;> simp only [h] <;> (try simp only [hna, hnb, hnc, ne_eq, reduceCtorEq, Int.reduceEq, gt_iff_lt, ge_iff_le] at h) <;> (try (exfalso; omega; done)))) | (with_reducible refine WMix.takeA ?_) | (with_reducible refine WMix.passA ?_) | ((with_reducible apply WMix.cons); (· exact dOK); (· decide); (· intro t; (with_reducible apply WG.call); (· exact vOK); (· first | assumption | exact EnT.h); (· exact argsOK (x := by first | fail)))) | (with_reducible refine WMix.consA F_ ?_) | (with_reducible refine WMix.makeA F_ ?_) | ((with_reducible refine And.intro ?_ ?_); (· omega)) | ((with_reducible refine And.intro (fun h => ?_) (fun h => ?_)) <;> (try simp only [Decidable.not_not] at h) <;> (try simp only [h])) | (with_reducible intro hl))
   ·have hK : (x.kids.take most).length = min most x.kids.length := by simp
    have hval : IntKind.i64.wrap ((if (most : Int) < (x.kids.length : Int) then (most : Int) else (x.kids.length : Int)) - 1) = ((x.kids.take most).length : Int) - 1 := by
     rw [wrapi (by split <;> omega) (by split <;> omega), hK]; split <;> omega
    rw [hval]
    refine EvL.loop (X := Nat) (fun k => [(1, .int .i64 (most : Int)), (5, .sl 0 0 (out.length + 1)), (6, .sl 1 0 (stkOf x most r k).length), (7, .ptr 2 0 0), (8, .int .i64 ((k : Int) - 1))])
     (fun k => [.rows 3 (out.map frm ++ [frm x]), .rows 3 ((stkOf x most r k).map frm), .rows 3 [frm x]]) (fun k => k ≤ (x.kids.take most).length) (fun k => k) (x.kids.take most).length (Nat.le_refl _)
     (View.of [4, 1, 2] _ (by simp) (by decide) (by (refine vw ?_; try exact trivial); exact ⟨renRows_append (frms_ren _ _) rfl (frms_ren _ [x]), frms_pre _ (by rw [stkOf_full]; simp), frm_ren _ _⟩) (by (refine vw ?_; try exact trivial); rw [stkOf_full]; simp)) (fun k hk => ?_)
    rcases k with _ | j
    ·(have F_ := True.intro); repeat' (first | (with_reducible refine stp ?_) | (with_reducible refine hq _ _ ?_; clear hq q) | (with_reducible refine hk _ _ ?_; clear hk k) | (with_reducible refine EvL.regA (fun k hk => ?_)) | ((with_reducible apply WOps.call); (· exact dOK); (· exact vOK); (· first | assumption | exact EnT.h); (· exact argsOK (x := by first | fail))) | (with_reducible refine WOps.auto F_ (fun q hq => ?_)) | ((with_reducible refine EvL.condA ?_ ?_); all_goals (intro h <;> (try simp only [hna, hnb, hnc, ne_eq, reduceCtorEq, Int.reduceEq, gt_iff_lt, ge_iff_le] at h) <;> (try (exfalso; omega; done)))) | (with_reducible refine EvL.drawnA (fun k hk => ?_)) | (with_reducible refine EvL.mixA (fun k hk => ?_)) | (with_reducible refine EvL.mix2A (fun k hk => ?_)) | (with_reducible refine WMix.bothA F_ ?_ ?_) | (with_reducible refine WOps.takeA ?_) | (with_reducible refine WOps.passA ?_) | ((with_reducible refine WOps.splitA ?_ ?_); all_goals (intro h <;> simp only [h] <;> (try simp only [hna, hnb, hnc, ne_eq, reduceCtorEq, Int.reduceEq, gt_iff_lt, ge_iff_le] at h) <;> (try (exfalso; omega; done)))) | (with_reducible refine WMix.takeA ?_) | (with_reducible refine WMix.passA ?_) | ((with_reducible apply WMix.cons); (· exact dOK); (· decide); (· intro t; (with_reducible apply WG.call); (· exact vOK); (· first | assumption | exact EnT.h); (· exact argsOK (x := by first | fail)))) | (with_reducible refine WMix.consA F_ ?_) | (with_reducible refine WMix.makeA F_ ?_) | ((with_reducible refine And.intro ?_ ?_); (· omega)) | ((with_reducible refine And.intro (fun h => ?_) (fun h => ?_)) <;> (try simp only [Decidable.not_not] at h) <;> (try simp only [h])) | (with_reducible intro hl))
     refine ⟨(out ++ [x], x.kids.take most ++ r), ⟨by simp; omega, ?_, ?_⟩, by simp; omega, View.of [0, 1] _ (by simp) (by decide) (by (refine vw ?_; try exact trivial); exact ⟨by simpa using frms_ren _ (out ++ [x]), by rw [stkOf_zero]; exact frms_ren _ _⟩) (by (refine vw ?_; try exact trivial); simp [stkOf_zero]; omega)⟩
     ·simp only [List.length_append, List.length_cons, List.length_nil, hK, Nat.add_mul]; omega
     ·rw [hx3]
      have : most - out.length = (most - (out.length + 1)) + 1 := by omega
      simp only [List.length_append, List.length_cons, List.length_nil, List.append_assoc, List.cons_append, List.nil_append]
      rw [this]; rfl
    ·have hj : j < x.kids.length := by simp at hk; omega
     have hj2 : j < (x.kids.take most).length := by omega
     have hrow2 : (x.kids.map frm)[j]? = some (frm x.kids[j]) := map_get _ _ _ _ (List.getElem?_eq_getElem hj)
     have hw3 : IntKind.i64.wrap ((j : Int) - 1) = (j : Int) - 1 := wrapi (by omega) (by simp at hk; omega)
     have htk2 : ((stkOf x most r (j + 1)).map frm).take (stkOf x most r (j + 1)).length = (stkOf x most r (j + 1)).map frm := List.take_of_length_le (by simp)
     have hlen := stkOf_length x most r (j + 1)
     (have F_ := And.intro @hrow2 (And.intro @hw3 (And.intro @htk2 (And.intro @frm_length (And.intro @frm_cell (And.intro @frm_take (And.intro @frm_drop3 (And.intro @frm_get0 (And.intro @frm_get1 (@frm_get2)))))))))); repeat' (first | (with_reducible refine stp ?_) | (with_reducible refine hq _ _ ?_; clear hq q) | (with_reducible refine hk _ _ ?_; clear hk k) | (with_reducible refine EvL.regA (fun k hk => ?_)) | ((with_reducible apply WOps.call); (· exact dOK); (· exact vOK); (· first | assumption | exact EnT.h); (· exact argsOK (x := by first | fail))) | (with_reducible refine WOps.auto F_ (fun q hq => ?_)) | ((with_reducible refine EvL.condA ?_ ?_); all_goals (intro h <;> (try simp only [hna, hnb, hnc, ne_eq, reduceCtorEq, Int.reduceEq, gt_iff_lt, ge_iff_le] at h) <;> (try (exfalso; omega; done)))) | (with_reducible refine EvL.drawnA (fun k hk => ?_)) | (with_reducible refine EvL.mixA (fun k hk => ?_)) | (with_reducible refine EvL.mix2A (fun k hk => ?_)) | (with_reducible refine WMix.bothA F_ ?_ ?_) | (with_reducible refine WOps.takeA ?_) | (with_reducible refine WOps.passA ?_) | ((with_reducible refine WOps.splitA ?_ ?_); all_goals (intro h <;> simp only [h] <;> (try simp only [hna, hnb, hnc, ne_eq, reduceCtorEq, Int.reduceEq, gt_iff_lt, ge_iff_le] at h) <;> (try (exfalso; omega; done)))) | (with_reducible refine WMix.takeA ?_) | (with_reducible refine WMix.passA ?_) | ((with_reducible apply WMix.cons); (· exact dOK); (· decide); (· intro t; (with_reducible apply WG.call); (· exact vOK); (· first | assumption | exact EnT.h); (· exact argsOK (x := by first | fail)))) | (with_reducible refine WMix.consA F_ ?_) | (with_reducible refine WMix.makeA F_ ?_) | ((with_reducible refine And.intro ?_ ?_); (· omega)) | ((with_reducible refine And.intro (fun h => ?_) (fun h => ?_)) <;> (try simp only [Decidable.not_not] at h) <;> (try simp only [h])) | (with_reducible intro hl))
     refine ⟨j, by omega, by omega, View.of [0, 4, 2] _ (by simp) (by decide) (by (refine vw ?_; try exact trivial); exact ⟨by simpa using frms_ren _ (out ++ [x]), by rw [stkOf_succ x most r j hj2 hj]; simpa using frms_ren _ (stkOf x most r (j + 1) ++ [x.kids[j]]), frm_ren _ _⟩) (by (refine vw ?_; try exact trivial); rw [stkOf_succ x most r j hj2 hj]; simp)⟩
   ·have : most - out.length = 0 := by omega
    rw [hx3, this]
    (refine finA ?_; try exact trivial)
    have hn : nodesGo most 0 (x :: r) = [] := rfl
    rw [hn, List.append_nil]
    simp only [List.length_map, Nat.le_refl, if_true, hto, frms_deref]
 ·intro a ha; simp only [List.mem_cons, List.not_mem_nil, or_false] at ha
  rcases ha with rfl | rfl
  ·exact closed_agg (by rw [frm_eq]; simp [flat_int, flat_str, Flat.closed, closed_list])
  ·exact (flat_int _ _).closed
def checkNodes : List Fm → Int → Option (Int × Int)
 | [], _ => none
 | x :: r, i =>
  if i = 200 then some (2, 0) else
  if kidsN x.kind < 0 then some (4, i) else
  if (x.kids.length : Int) ≠ kidsN x.kind then some (9, i) else
  if (x.kind = 1 ∧ isNameB x.name = false) ∨ (x.kind ≠ 1 ∧ x.name ≠ ⟨#[]⟩) then some (8, i) else checkNodes r (i + 1)
def formulaCheck (f : Fm) : Int × Int := (checkNodes (nodesGo 201 201 [f]) 0).getD (0, 0)
theorem checkNodes_drop (l : List Fm) (i : Nat) (h : i < l.length) (j : Int) : checkNodes (l.drop i) j =
  if j = 200 then some (2, 0) else
  if kidsN l[i].kind < 0 then some (4, j) else
  if (l[i].kids.length : Int) ≠ kidsN l[i].kind then some (9, j) else
  if (l[i].kind = 1 ∧ isNameB l[i].name = false) ∨ (l[i].kind ≠ 1 ∧ l[i].name ≠ ⟨#[]⟩) then some (8, j) else checkNodes (l.drop (i + 1)) (j + 1) := by
 rw [List.drop_eq_getElem_cons h, checkNodes]
theorem check_formula (f : Fm) (s : Store) : CallOK Try.prog 14 [.agg (frm f)] s (.agg [.int .i64 (formulaCheck f).1, .int .i64 (formulaCheck f).2]) s := by
 refine CallOK.frame ?_ ?_
 ·refine callOK_of Try.func14 rfl rfl Try.ntmps14 (by simp) ?_
  rw [Try.results14]
  dsimp only [light, regL, dsts, lopsL, lop, nth]
  have hmax : maxLen = 9223372036854775807 := rfl
  have hn := nodes_formula f 201 (by omega)
  unfold formulaCheck
  obtain ⟨l, hl0⟩ : ∃ l, l = nodesGo 201 201 [f] := ⟨_, rfl⟩
  rw [← hl0] at hn ⊢
  clear hl0
  (have F_ := And.intro @frm_length (@frm_take)); repeat' (first | (with_reducible refine stp ?_) | (with_reducible refine hq _ _ ?_; clear hq q) | (with_reducible refine hk _ _ ?_; clear hk k) | (with_reducible refine EvL.regA (fun k hk => ?_)) | ((with_reducible apply WOps.call); (· exact dOK); (· exact vOK); (· first | assumption | exact EnT.h); (· exact argsOK (x := by first | exact hn _))) | (with_reducible refine WOps.auto F_ (fun q hq => ?_)) | ((with_reducible refine EvL.condA ?_ ?_); all_goals (intro h <;> (try simp only [hna, hnb, hnc, ne_eq, reduceCtorEq, Int.reduceEq, gt_iff_lt, ge_iff_le] at h) <;> (try (exfalso; omega; done)))) | (with_reducible refine EvL.drawnA (fun k hk => ?_)) | (with_reducible refine EvL.mixA (fun k hk => ?_)) | (with_reducible refine EvL.mix2A (fun k hk => ?_)) | (with_reducible refine WMix.bothA F_ ?_ ?_) | (with_reducible refine WOps.takeA ?_) | (with_reducible refine WOps.passA ?_) | ((with_reducible refine WOps.splitA ?_ ?_); all_goals (intro h <;> simp only [h] <;> (try simp only [hna, hnb, hnc, ne_eq, reduceCtorEq, Int.reduceEq, gt_iff_lt, ge_iff_le] at h) <;> (try (exfalso; omega; done)))) | (with_reducible refine WMix.takeA ?_) | (with_reducible refine WMix.passA ?_) | ((with_reducible apply WMix.cons); (· exact dOK); (· decide); (· intro t; (with_reducible apply WG.call); (· exact vOK); (· first | assumption | exact EnT.h); (· exact argsOK (x := by first | exact hn _)))) | (with_reducible refine WMix.consA F_ ?_) | (with_reducible refine WMix.makeA F_ ?_) | ((with_reducible refine And.intro ?_ ?_); (· omega)) | ((with_reducible refine And.intro (fun h => ?_) (fun h => ?_)) <;> (try simp only [Decidable.not_not] at h) <;> (try simp only [h])) | (with_reducible intro hl))
  refine EvL.loop (X := Nat) (fun i => [(2, .ptr 1 0 0), (9, .list (l.map frm)), (10, .int .i64 (l.length : Int)), (11, .int .i64 (i : Int))])
   (fun i => [.rows 3 [frm f], .rows 2 [[.int .i64 0, .int .i64 0]]]) (fun i => i ≤ l.length ∧ checkNodes l 0 = checkNodes (l.drop i) i) (fun i => l.length - i) 0 ⟨by omega, rfl⟩
   (View.of [0, 1] _ (by simp) (by decide) (by (refine vw ?_; try exact trivial); exact frm_ren _ _) (by (refine vw ?_; try exact trivial))) (fun i hi => ?_)
  by_cases hlt : i < l.length
  ·have hrow : (l.map frm)[i]? = some (frm l[i]) := map_get _ _ _ _ (List.getElem?_eq_getElem hlt)
   have hw := wrap_up i (by omega)
   have hd := checkNodes_drop l i hlt i
   (have F_ := And.intro @hrow (And.intro @hw (And.intro @frm_length (And.intro @frm_cell (And.intro @frm_take (And.intro @frm_drop3 (And.intro @frm_get0 (And.intro @frm_get1 (@frm_get2))))))))); repeat' (first | (with_reducible refine stp ?_) | (with_reducible refine hq _ _ ?_; clear hq q) | (with_reducible refine hk _ _ ?_; clear hk k) | (with_reducible refine EvL.regA (fun k hk => ?_)) | ((with_reducible apply WOps.call); (· exact dOK); (· exact vOK); (· first | assumption | exact EnT.h); (· exact argsOK (x := by first | exact fault_formula _ _ _ | exact kids_formula _ _ | exact isName_formula _ _))) | (with_reducible refine WOps.auto F_ (fun q hq => ?_)) | ((with_reducible refine EvL.condA ?_ ?_); all_goals (intro h <;> (try simp only [hna, hnb, hnc, ne_eq, reduceCtorEq, Int.reduceEq, gt_iff_lt, ge_iff_le] at h) <;> (try (exfalso; omega; done)))) | (with_reducible refine EvL.drawnA (fun k hk => ?_)) | (with_reducible refine EvL.mixA (fun k hk => ?_)) | (with_reducible refine EvL.mix2A (fun k hk => ?_)) | (with_reducible refine WMix.bothA F_ ?_ ?_) | (with_reducible refine WOps.takeA ?_) | (with_reducible refine WOps.passA ?_) | ((with_reducible refine WOps.splitA ?_ ?_); all_goals (intro h <;> simp only [h] <;> (try simp only [hna, hnb, hnc, ne_eq, reduceCtorEq, Int.reduceEq, gt_iff_lt, ge_iff_le] at h) <;> (try (exfalso; omega; done)))) | (with_reducible refine WMix.takeA ?_) | (with_reducible refine WMix.passA ?_) | ((with_reducible apply WMix.cons); (· exact dOK); (· decide); (· intro t; (with_reducible apply WG.call); (· exact vOK); (· first | assumption | exact EnT.h); (· exact argsOK (x := by first | exact fault_formula _ _ _ | exact kids_formula _ _ | exact isName_formula _ _)))) | (with_reducible refine WMix.consA F_ ?_) | (with_reducible refine WMix.makeA F_ ?_) | ((with_reducible refine And.intro ?_ ?_); (· omega)) | ((with_reducible refine And.intro (fun h => ?_) (fun h => ?_)) <;> (try simp only [Decidable.not_not] at h) <;> (try simp only [h])) | (with_reducible intro hl))
   all_goals first | ((refine finA ?_; try exact trivial); rw [hi.2, hd]; (try rw [if_neg (show ¬ (i : Int) = 200 by omega), if_neg (show ¬ kidsN l[i].kind < 0 by omega)]); simp_all; done) | (refine ⟨i + 1, ⟨by omega, ?_⟩, by omega, View.of [0, 1] _ (by simp) (by decide) (by (refine vw ?_; try exact trivial); exact frm_ren _ _) (by (refine vw ?_; try exact trivial))⟩; rw [hi.2, hd]; (try rw [if_neg (show ¬ (i : Int) = 200 by omega), if_neg (show ¬ kidsN l[i].kind < 0 by omega)]); simp_all; done) | skip
  ·(have F_ := @frm_length); repeat' (first | (with_reducible refine stp ?_) | (with_reducible refine hq _ _ ?_; clear hq q) | (with_reducible refine hk _ _ ?_; clear hk k) | (with_reducible refine EvL.regA (fun k hk => ?_)) | ((with_reducible apply WOps.call); (· exact dOK); (· exact vOK); (· first | assumption | exact EnT.h); (· exact argsOK (x := by first | fail))) | (with_reducible refine WOps.auto F_ (fun q hq => ?_)) | ((with_reducible refine EvL.condA ?_ ?_); all_goals (intro h <;> (try simp only [hna, hnb, hnc, ne_eq, reduceCtorEq, Int.reduceEq, gt_iff_lt, ge_iff_le] at h) <;> (try (exfalso; omega; done)))) | (with_reducible refine EvL.drawnA (fun k hk => ?_)) | (with_reducible refine EvL.mixA (fun k hk => ?_)) | (with_reducible refine EvL.mix2A (fun k hk => ?_)) | (with_reducible refine WMix.bothA F_ ?_ ?_) | (with_reducible refine WOps.takeA ?_) | (with_reducible refine WOps.passA ?_) | ((with_reducible refine WOps.splitA ?_ ?_); all_goals (intro h <;> simp only [h] <;> (try simp only [hna, hnb, hnc, ne_eq, reduceCtorEq, Int.reduceEq, gt_iff_lt, ge_iff_le] at h) <;> (try (exfalso; omega; done)))) | (with_reducible refine WMix.takeA ?_) | (with_reducible refine WMix.passA ?_) | ((with_reducible apply WMix.cons); (· exact dOK); (· decide); (· intro t; (with_reducible apply WG.call); (· exact vOK); (· first | assumption | exact EnT.h); (· exact argsOK (x := by first | fail)))) | (with_reducible refine WMix.consA F_ ?_) | (with_reducible refine WMix.makeA F_ ?_) | ((with_reducible refine And.intro ?_ ?_); (· omega)) | ((with_reducible refine And.intro (fun h => ?_) (fun h => ?_)) <;> (try simp only [Decidable.not_not] at h) <;> (try simp only [h])) | (with_reducible intro hl))
   (refine finA ?_; try exact trivial)
   have hd : l.drop i = [] := List.drop_eq_nil_of_le (by omega)
   rw [hi.2, hd]; exact ⟨rfl, rfl⟩
 ·intro a ha; simp only [List.mem_cons, List.not_mem_nil, or_false] at ha
  subst ha; exact closed_frm f
end Go.Proofs.Ytcllmionhlmjfaa
