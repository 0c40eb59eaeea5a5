/-
  modal.newFrame, told without memory.
-/
import Derived.Test.YtbmpmmbcfabeeaaModA
namespace Go.Proofs.Ytbmpmmbcfabeeaa
open Go Go.Pv
set_option linter.unusedVariables false
set_option linter.unusedSimpArgs false
set_option maxRecDepth 100000
set_option maxHeartbeats 4000000

/-- a table of truth values -/
def tabRow (l : List Bool) : List PV := [.list (l.map boolRow)]
theorem tabRow_eq : ∀ l : List Bool, tabRow l = [.list (l.map boolRow)] := fun _ => rfl
def sees (rel : List (Int × Int)) (i j : Nat) : Bool := rel.any fun p => p.1 == i && p.2 == j
def frameOf (m : Mdl) : List (List Bool) := (List.range m.n.toNat).map fun i => (List.range m.n.toNat).map fun j => sees m.rel i j

/-- the rows' heads, when 'i' of them are made -/
def heads (n i : Nat) : List (List PV) := (List.range n).map fun j => if j < i then [.sl (j + 1 + 1) 0 n] else [.nilsl]
def falses (n : Nat) : PObj := .rows 1 (List.replicate n [.bool false])
def tabs (n : Nat) (rel : List (Int × Int)) : List PObj := (List.range n).map fun i => .rows 1 ((List.range n).map fun j => [.bool (sees rel i j)])

theorem heads_zero (n : Nat) : heads n 0 = List.replicate n [.nilsl] := by
  unfold heads; apply List.ext_getElem <;> simp
theorem heads_get (n i j : Nat) (h : j < n) : (heads n i)[j]? = some (if j < i then [.sl (j + 1 + 1) 0 n] else [.nilsl]) := by simp [heads, h]
theorem heads_len (n i : Nat) : (heads n i).length = n := by simp [heads]
theorem heads_set (n i : Nat) (h : i < n) : (heads n i).set i [.sl (i + 1 + 1) 0 n] = heads n (i + 1) := by
  apply List.ext_getElem
  · simp [heads]
  · intro j h1 h2
    rw [List.getElem_set]
    simp only [heads, List.getElem_map, List.getElem_range]
    by_cases e : i = j
    · subst e; simp
    · rw [if_neg e]
      have : (j < i) = (j < i + 1) := by rw [eq_iff_iff]; omega
      simp only [this]
theorem heads_self (n i N : Nat) (hi : i ≤ n) (h : i + 2 ≤ N) : RenObjD (List.range N) (.rows 1 (heads n i)) (.rows 1 (heads n i)) := by
  refine ⟨rfl, renRows_same fun row hr x hx => ?_⟩
  simp only [heads, List.mem_map, List.mem_range] at hr
  obtain ⟨j, hj, rfl⟩ := hr
  split at hx <;> simp only [List.mem_cons, List.not_mem_nil, or_false] at hx <;> subst hx
  · exact .sl (range_get (by omega))
  · exact .nilsl
theorem falses_self (n : Nat) (ρ : List Nat) : RenObjD ρ (falses n) (falses n) := by
  refine ⟨rfl, renRows_same fun row hr x hx => ?_⟩
  rw [List.mem_replicate] at hr
  obtain ⟨_, rfl⟩ := hr
  simp only [List.mem_cons, List.not_mem_nil, or_false] at hx; subst hx; exact .bool

theorem tabs_nil (n : Nat) : tabs n [] = List.replicate n (falses n) := by
  unfold tabs falses sees
  apply List.ext_getElem
  · simp
  · intro i h1 h2
    simp only [List.getElem_map, List.getElem_replicate, List.any_nil, PObj.rows.injEq, true_and]
    apply List.ext_getElem <;> simp
theorem tabs_get (n : Nat) (rel : List (Int × Int)) (i : Nat) (h : i < n) : (tabs n rel)[i]? = some (.rows 1 ((List.range n).map fun j => [.bool (sees rel i j)])) := by simp [tabs, h]
theorem tabs_len (n : Nat) (rel : List (Int × Int)) : (tabs n rel).length = n := by simp [tabs]
theorem tabs_set (n : Nat) (rel : List (Int × Int)) (a b : Nat) (ha : a < n) (hb : b < n) : (tabs n rel).set a (.rows 1 (((List.range n).map fun j => [.bool (sees rel a j)]).set b [.bool true])) = tabs n (rel ++ [((a : Int), (b : Int))]) := by
  apply List.ext_getElem
  · simp [tabs]
  · intro i h1 h2
    simp only [tabs, List.length_map, List.length_range] at h2
    rw [List.getElem_set]
    simp only [tabs, List.getElem_map, List.getElem_range]
    by_cases e : a = i
    · subst e
      rw [if_pos rfl]
      congr 1
      apply List.ext_getElem
      · simp
      · intro j h3 h4
        simp only [List.length_map, List.length_range] at h4
        rw [List.getElem_set]
        simp only [List.getElem_map, List.getElem_range]
        by_cases e2 : b = j
        · subst e2; simp [sees]
        · rw [if_neg e2]
          have : ¬ (b : Int) = (j : Int) := by omega
          simp [sees, this]
    · rw [if_neg e]
      have : ¬ (a : Int) = (i : Int) := by omega
      congr 1
      apply List.map_congr_left
      intro j _
      simp [sees, this]
theorem tabs_self (n : Nat) (rel : List (Int × Int)) (ρ : List Nat) : ∀ o ∈ tabs n rel, RenObjD ρ o o := by
  intro o ho
  simp only [tabs, List.mem_map, List.mem_range] at ho
  obtain ⟨i, hi, rfl⟩ := ho
  refine ⟨rfl, renRows_same fun row hr x hx => ?_⟩
  simp only [List.mem_map] at hr
  obtain ⟨j, _, rfl⟩ := hr
  simp only [List.mem_cons, List.not_mem_nil, or_false] at hx; subst hx; exact .bool
theorem take_up {α : Type} (l : List α) (k : Nat) (h : k < l.length) : l.take (k + 1) = l.take k ++ [l[k]] := by rw [List.take_add_one, List.getElem?_eq_getElem h]; rfl

theorem newFrame_modal (m : Mdl) (h0 : 0 ≤ m.n) (h1 : m.n ≤ 40) (hrel : ∀ p ∈ m.rel, 0 ≤ p.1 ∧ p.1 < m.n ∧ 0 ≤ p.2 ∧ p.2 < m.n) (s : Store) : CallOK Try.prog 87 [.agg (mdl m)] s (.list ((frameOf m).map tabRow)) s := by
  refine CallOK.frame ?_ ?_
  · refine callOK_of Try.func87 rfl rfl Try.ntmps87 (by simp) ?_
    rw [Try.results87]
    dsimp only [light, regL, dsts, lopsL, lop, nth]
    have hmax : maxLen = 9223372036854775807 := rfl
    obtain ⟨n, hn⟩ : ∃ n : Nat, m.n = n := ⟨m.n.toNat, by omega⟩
    unfold mdl
    rw [hn]
    (have F_ := True.intro); repeat' (first | (with_reducible refine stp ?_) | (with_reducible refine hq _ _ ?_; clear hq q) | (with_reducible refine hk _ _ ?_; clear hk k) | (with_reducible refine EvL.regA (fun k hk => ?_)) | ((with_reducible apply WOps.call); (· exact dOK); (· exact vOK); (· first | assumption | exact EnT.h); (· exact argsOK (x := by first | fail))) | (with_reducible refine WOps.auto F_ (fun q hq => ?_)) | ((with_reducible refine EvL.condA ?_ ?_); all_goals (intro h <;> (try simp only [hna, hnb, hnc, ne_eq, reduceCtorEq, Int.reduceEq, gt_iff_lt, ge_iff_le] at h) <;> (try (exfalso; omega; done)))) | (with_reducible refine EvL.drawnA (fun k hk => ?_)) | (with_reducible refine EvL.mixA (fun k hk => ?_)) | (with_reducible refine EvL.mix2A (fun k hk => ?_)) | (with_reducible refine WMix.bothA F_ ?_ ?_) | (with_reducible refine WOps.takeA ?_) | (with_reducible refine WOps.passA ?_) | ((with_reducible refine WOps.splitA ?_ ?_); all_goals (intro h <;> simp only [h] <;> (try simp only [hna, hnb, hnc, ne_eq, reduceCtorEq, Int.reduceEq, gt_iff_lt, ge_iff_le] at h) <;> (try (exfalso; omega; done)))) | (with_reducible refine WMix.takeA ?_) | (with_reducible refine WMix.passA ?_) | ((with_reducible apply WMix.cons); (· exact dOK); (· decide); (· intro t; (with_reducible apply WG.call); (· exact vOK); (· first | assumption | exact EnT.h); (· exact argsOK (x := by first | fail)))) | (with_reducible refine WMix.consA F_ ?_) | (with_reducible refine WMix.makeA F_ ?_) | ((with_reducible refine And.intro ?_ ?_); (· omega)) | ((with_reducible refine And.intro (fun h => ?_) (fun h => ?_)) <;> (try simp only [Decidable.not_not] at h) <;> (try simp only [h])) | (with_reducible intro hl))
    refine EvL.loop (X := Nat) (fun i => [(1, .ptr 0 0 0), (3, .sl 1 0 n), (11, .int .i64 (n : Int)), (12, .int .i64 (i : Int))])
      (fun i => [.rows 3 [mdl m], .rows 1 (heads n i)] ++ List.replicate i (falses n)) (fun i => i ≤ n) (fun i => n - i) 0 (by omega)
      (View.pre _ (by simp) (by rw [heads_zero]; unfold mdl; rw [hn]; exact List.prefix_refl _) (by
        intro o ho; simp only [List.replicate_zero, List.append_nil, List.mem_cons, List.not_mem_nil, or_false] at ho
        rcases ho with rfl | rfl
        · unfold mdl; (refine vw ?_; try exact trivial)
        · exact heads_self n 0 _ (by omega) (by simp)) (by (refine vw ?_; try exact trivial); simp)) (fun i hi => ?_)
    unfold mdl
    rw [hn]
    by_cases hlt : i < n
    · have hw := wrap_up i (by omega)
      have hg := heads_get n i i hlt
      rw [if_neg (Nat.lt_irrefl i)] at hg
      (have F_ := And.intro @hw (@hg)); repeat' (first | (with_reducible refine stp ?_) | (with_reducible refine hq _ _ ?_; clear hq q) | (with_reducible refine hk _ _ ?_; clear hk k) | (with_reducible refine EvL.regA (fun k hk => ?_)) | ((with_reducible apply WOps.call); (· exact dOK); (· exact vOK); (· first | assumption | exact EnT.h); (· exact argsOK (x := by first | fail))) | (with_reducible refine WOps.auto F_ (fun q hq => ?_)) | ((with_reducible refine EvL.condA ?_ ?_); all_goals (intro h <;> (try simp only [hna, hnb, hnc, ne_eq, reduceCtorEq, Int.reduceEq, gt_iff_lt, ge_iff_le] at h) <;> (try (exfalso; omega; done)))) | (with_reducible refine EvL.drawnA (fun k hk => ?_)) | (with_reducible refine EvL.mixA (fun k hk => ?_)) | (with_reducible refine EvL.mix2A (fun k hk => ?_)) | (with_reducible refine WMix.bothA F_ ?_ ?_) | (with_reducible refine WOps.takeA ?_) | (with_reducible refine WOps.passA ?_) | ((with_reducible refine WOps.splitA ?_ ?_); all_goals (intro h <;> simp only [h] <;> (try simp only [hna, hnb, hnc, ne_eq, reduceCtorEq, Int.reduceEq, gt_iff_lt, ge_iff_le] at h) <;> (try (exfalso; omega; done)))) | (with_reducible refine WMix.takeA ?_) | (with_reducible refine WMix.passA ?_) | ((with_reducible apply WMix.cons); (· exact dOK); (· decide); (· intro t; (with_reducible apply WG.call); (· exact vOK); (· first | assumption | exact EnT.h); (· exact argsOK (x := by first | fail)))) | (with_reducible refine WMix.consA F_ ?_) | (with_reducible refine WMix.makeA F_ ?_) | ((with_reducible refine And.intro ?_ ?_); (· omega)) | ((with_reducible refine And.intro (fun h => ?_) (fun h => ?_)) <;> (try simp only [Decidable.not_not] at h) <;> (try simp only [h])) | (with_reducible intro hl))
      rw [show (List.replicate i (falses n)).length = i by simp, heads_set n i hlt]
      refine ⟨i + 1, by omega, by omega, View.pre _ (by simp) (by rw [← hn, List.replicate_succ']; exact List.prefix_refl _) (by
        intro o ho; simp only [List.mem_append, List.mem_cons, List.not_mem_nil, or_false, List.mem_replicate] at ho
        rcases ho with (rfl | rfl) | ⟨_, rfl⟩
        · (refine vw ?_; try exact trivial)
        · exact heads_self n (i + 1) _ (by omega) (by simp)
        · exact falses_self n _) (by (refine vw ?_; try exact trivial); simp)⟩
    · obtain rfl : i = n := by omega
      (have F_ := True.intro); repeat' (first | (with_reducible refine stp ?_) | (with_reducible refine hq _ _ ?_; clear hq q) | (with_reducible refine hk _ _ ?_; clear hk k) | (with_reducible refine EvL.regA (fun k hk => ?_)) | ((with_reducible apply WOps.call); (· exact dOK); (· exact vOK); (· first | assumption | exact EnT.h); (· exact argsOK (x := by first | fail))) | (with_reducible refine WOps.auto F_ (fun q hq => ?_)) | ((with_reducible refine EvL.condA ?_ ?_); all_goals (intro h <;> (try simp only [hna, hnb, hnc, ne_eq, reduceCtorEq, Int.reduceEq, gt_iff_lt, ge_iff_le] at h) <;> (try (exfalso; omega; done)))) | (with_reducible refine EvL.drawnA (fun k hk => ?_)) | (with_reducible refine EvL.mixA (fun k hk => ?_)) | (with_reducible refine EvL.mix2A (fun k hk => ?_)) | (with_reducible refine WMix.bothA F_ ?_ ?_) | (with_reducible refine WOps.takeA ?_) | (with_reducible refine WOps.passA ?_) | ((with_reducible refine WOps.splitA ?_ ?_); all_goals (intro h <;> simp only [h] <;> (try simp only [hna, hnb, hnc, ne_eq, reduceCtorEq, Int.reduceEq, gt_iff_lt, ge_iff_le] at h) <;> (try (exfalso; omega; done)))) | (with_reducible refine WMix.takeA ?_) | (with_reducible refine WMix.passA ?_) | ((with_reducible apply WMix.cons); (· exact dOK); (· decide); (· intro t; (with_reducible apply WG.call); (· exact vOK); (· first | assumption | exact EnT.h); (· exact argsOK (x := by first | fail)))) | (with_reducible refine WMix.consA F_ ?_) | (with_reducible refine WMix.makeA F_ ?_) | ((with_reducible refine And.intro ?_ ?_); (· omega)) | ((with_reducible refine And.intro (fun h => ?_) (fun h => ?_)) <;> (try simp only [Decidable.not_not] at h) <;> (try simp only [h])) | (with_reducible intro hl))
      refine EvL.loop (X := Nat) (fun k => [(3, .sl 1 0 i), (23, .list (m.rel.map relRow)), (24, .int .i64 (m.rel.length : Int)), (25, .int .i64 (k : Int))])
        (fun k => [.rows 3 [mdl m], .rows 1 (heads i i)] ++ tabs i (m.rel.take k)) (fun k => k ≤ m.rel.length) (fun k => m.rel.length - k) 0 (by omega)
        (View.pre _ (by simp) (by rw [List.take_zero, tabs_nil]; unfold mdl; rw [hn]; exact List.prefix_refl _) (by
          intro o ho; simp only [List.mem_append, List.mem_cons, List.not_mem_nil, or_false] at ho
          rcases ho with (rfl | rfl) | ho
          · unfold mdl; (refine vw ?_; try exact trivial)
          · exact heads_self i i _ (by omega) (by simp [tabs_len])
          · exact tabs_self _ _ _ o ho) (by (refine vw ?_; try exact trivial); simp)) (fun k hk => ?_)
      unfold mdl
      rw [hn]
      by_cases hkl : k < m.rel.length
      · have hrow : (m.rel.map relRow)[k]? = some (relRow m.rel[k]) := map_get _ _ _ _ (List.getElem?_eq_getElem hkl)
        have hw := wrap_up k (by omega)
        obtain ⟨hp1, hp2, hp3, hp4⟩ := hrel m.rel[k] (List.getElem_mem hkl)
        obtain ⟨a, ha⟩ : ∃ a : Nat, m.rel[k].1 = a := ⟨m.rel[k].1.toNat, by omega⟩
        obtain ⟨b, hb⟩ : ∃ b : Nat, m.rel[k].2 = b := ⟨m.rel[k].2.toNat, by omega⟩
        have hai : a < i := by omega
        have hbi : b < i := by omega
        have hg := heads_get i i a hai
        rw [if_pos hai] at hg
        have htg : ∀ r, (tabs i (m.rel.take k) ++ [r])[a]? = some (.rows 1 ((List.range i).map fun j => [.bool (sees (m.rel.take k) a j)])) := fun r => by
          rw [List.getElem?_append_left (by rw [tabs_len]; exact hai)]; exact tabs_get _ _ _ hai
        have hbg : ((List.range i).map fun j => [PV.bool (sees (m.rel.take k) a j)])[b]? = some [.bool (sees (m.rel.take k) a b)] := by simp [hbi]
        (have F_ := And.intro @hrow (And.intro @relRow_eq (And.intro @hw (And.intro @hg (And.intro @ha (And.intro @hb (And.intro @htg (@hbg)))))))); repeat' (first | (with_reducible refine stp ?_) | (with_reducible refine hq _ _ ?_; clear hq q) | (with_reducible refine hk _ _ ?_; clear hk k) | (with_reducible refine EvL.regA (fun k hk => ?_)) | ((with_reducible apply WOps.call); (· exact dOK); (· exact vOK); (· first | assumption | exact EnT.h); (· exact argsOK (x := by first | fail))) | (with_reducible refine WOps.auto F_ (fun q hq => ?_)) | ((with_reducible refine EvL.condA ?_ ?_); all_goals (intro h <;> (try simp only [hna, hnb, hnc, ne_eq, reduceCtorEq, Int.reduceEq, gt_iff_lt, ge_iff_le] at h) <;> (try (exfalso; omega; done)))) | (with_reducible refine EvL.drawnA (fun k hk => ?_)) | (with_reducible refine EvL.mixA (fun k hk => ?_)) | (with_reducible refine EvL.mix2A (fun k hk => ?_)) | (with_reducible refine WMix.bothA F_ ?_ ?_) | (with_reducible refine WOps.takeA ?_) | (with_reducible refine WOps.passA ?_) | ((with_reducible refine WOps.splitA ?_ ?_); all_goals (intro h <;> simp only [h] <;> (try simp only [hna, hnb, hnc, ne_eq, reduceCtorEq, Int.reduceEq, gt_iff_lt, ge_iff_le] at h) <;> (try (exfalso; omega; done)))) | (with_reducible refine WMix.takeA ?_) | (with_reducible refine WMix.passA ?_) | ((with_reducible apply WMix.cons); (· exact dOK); (· decide); (· intro t; (with_reducible apply WG.call); (· exact vOK); (· first | assumption | exact EnT.h); (· exact argsOK (x := by first | fail)))) | (with_reducible refine WMix.consA F_ ?_) | (with_reducible refine WMix.makeA F_ ?_) | ((with_reducible refine And.intro ?_ ?_); (· omega)) | ((with_reducible refine And.intro (fun h => ?_) (fun h => ?_)) <;> (try simp only [Decidable.not_not] at h) <;> (try simp only [h])) | (with_reducible intro hl))
        have hst : (tabs i (m.rel.take k) ++ [PObj.rows 2 [[PV.int IntKind.i64 a, PV.int IntKind.i64 b]]]).set a (.rows 1 (((List.range i).map fun j => [PV.bool (sees (m.rel.take k) a j)]).set b [.bool true])) = tabs i (m.rel.take (k + 1)) ++ [PObj.rows 2 [[PV.int IntKind.i64 a, PV.int IntKind.i64 b]]] := by
          rw [List.set_append_left _ _ (by rw [tabs_len]; exact hai), tabs_set i _ a b hai hbi, take_up _ _ hkl, ← ha, ← hb]
        rw [hst]
        refine ⟨k + 1, by omega, by omega, View.pre _ (by simp) ⟨[PObj.rows 2 [[PV.int IntKind.i64 a, PV.int IntKind.i64 b]]], by simp⟩ (by
          intro o ho; simp only [List.mem_append, List.mem_cons, List.not_mem_nil, or_false] at ho
          rcases ho with (rfl | rfl) | ho
          · (refine vw ?_; try exact trivial)
          · exact heads_self i i _ (by omega) (by simp [tabs_len])
          · exact tabs_self _ _ _ o ho) (by (refine vw ?_; try exact trivial); simp)⟩
      · (have F_ := True.intro); repeat' (first | (with_reducible refine stp ?_) | (with_reducible refine hq _ _ ?_; clear hq q) | (with_reducible refine hk _ _ ?_; clear hk k) | (with_reducible refine EvL.regA (fun k hk => ?_)) | ((with_reducible apply WOps.call); (· exact dOK); (· exact vOK); (· first | assumption | exact EnT.h); (· exact argsOK (x := by first | fail))) | (with_reducible refine WOps.auto F_ (fun q hq => ?_)) | ((with_reducible refine EvL.condA ?_ ?_); all_goals (intro h <;> (try simp only [hna, hnb, hnc, ne_eq, reduceCtorEq, Int.reduceEq, gt_iff_lt, ge_iff_le] at h) <;> (try (exfalso; omega; done)))) | (with_reducible refine EvL.drawnA (fun k hk => ?_)) | (with_reducible refine EvL.mixA (fun k hk => ?_)) | (with_reducible refine EvL.mix2A (fun k hk => ?_)) | (with_reducible refine WMix.bothA F_ ?_ ?_) | (with_reducible refine WOps.takeA ?_) | (with_reducible refine WOps.passA ?_) | ((with_reducible refine WOps.splitA ?_ ?_); all_goals (intro h <;> simp only [h] <;> (try simp only [hna, hnb, hnc, ne_eq, reduceCtorEq, Int.reduceEq, gt_iff_lt, ge_iff_le] at h) <;> (try (exfalso; omega; done)))) | (with_reducible refine WMix.takeA ?_) | (with_reducible refine WMix.passA ?_) | ((with_reducible apply WMix.cons); (· exact dOK); (· decide); (· intro t; (with_reducible apply WG.call); (· exact vOK); (· first | assumption | exact EnT.h); (· exact argsOK (x := by first | fail)))) | (with_reducible refine WMix.consA F_ ?_) | (with_reducible refine WMix.makeA F_ ?_) | ((with_reducible refine And.intro ?_ ?_); (· omega)) | ((with_reducible refine And.intro (fun h => ?_) (fun h => ?_)) <;> (try simp only [Decidable.not_not] at h) <;> (try simp only [h])) | (with_reducible intro hl))
        (refine finA ?_; try exact trivial)
        rw [heads_len, if_pos (Nat.le_refl _), List.take_of_length_le (l := heads i i) (by rw [heads_len]; exact Nat.le_refl _)]
        have hk2 : m.rel.take k = m.rel := List.take_of_length_le (by omega)
        rw [hk2]
        congr 1
        unfold heads frameOf
        rw [List.map_map, List.map_map, hn, Int.toNat_natCast]
        apply List.map_congr_left
        intro j hj
        have hji : j < i := by simpa using hj
        have hjt := tabs_get i m.rel j hji
        simp only [Function.comp, if_pos hji, List.map_cons, List.map_nil, tabRow, deref, List.getElem?_cons_succ, hjt, List.length_map, List.length_range, Nat.zero_add, Nat.le_refl, if_true, List.drop_zero]
        rw [List.take_of_length_le (by simp), List.map_map, List.map_map]
        simp only [List.cons.injEq, PV.list.injEq, and_true]
        rfl
  · intro a ha; simp only [List.mem_cons, List.not_mem_nil, or_false] at ha; subst ha
    exact closed_agg (by simp [mdl, flat_int, Flat.closed, closed_list])

end Go.Proofs.Ytbmpmmbcfabeeaa
