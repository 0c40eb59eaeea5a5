/-
  Square tables of truth values.
-/
import Derived.Test.YthnobaacfjihcaaQAp
namespace Go.Proofs.Ythnobaacfjihcaa
open Go Go.Pv
set_option linter.unusedVariables false
set_option linter.unusedSimpArgs false

/-- an order as it is given -/
structure Ord where
  n : Int
  ps : List (Int × Int)
def ord (o : Ord) : List PV := [.int .i64 o.n, .list (o.ps.map relRow)]
/-- a square table -/
def tabF (n : Nat) (g : Nat → Nat → Bool) : List (List Bool) := (List.range n).map fun i => (List.range n).map (g i)
def rowF (n : Nat) (g : Nat → Nat → Bool) (u : Nat) : List Bool := (List.range n).map (g u)
@[simp] theorem rowF_length {n u : Nat} {g : Nat → Nat → Bool} : (rowF n g u).length = n := by simp [rowF]
theorem rowF_get {n u v : Nat} {g : Nat → Nat → Bool} (h : v < (rowF n g u).length) : (rowF n g u)[v] = g u v := by simp [rowF]
def updF (g : Nat → Nat → Bool) (u v : Nat) (b : Bool) (i j : Nat) : Bool := if i = u ∧ j = v then b else g i j
@[simp] theorem tabF_length {n : Nat} {g : Nat → Nat → Bool} : (tabF n g).length = n := by simp [tabF]
theorem tabF_get {n u : Nat} {g : Nat → Nat → Bool} (h : u < (tabF n g).length) : (tabF n g)[u] = rowF n g u := by simp [tabF, rowF]
theorem tabF_lens {n : Nat} {g : Nat → Nat → Bool} : (tabF n g).map List.length = List.replicate n n := by
  unfold tabF
  rw [List.map_map]
  apply List.ext_getElem (by simp)
  intro i h1 h2
  simp
theorem rowF_set {n u v : Nat} {g : Nat → Nat → Bool} {b : Bool} : (rowF n g u).set v b = rowF n (updF g u v b) u := by
  unfold rowF
  apply List.ext_getElem (by simp)
  intro j h1 h2
  rw [List.getElem_set]
  simp only [List.getElem_map, List.getElem_range, updF, true_and]
  by_cases e : v = j
  · subst e; simp
  · rw [if_neg e, if_neg (fun h => e h.symm)]
theorem tabF_set {n u v : Nat} {g : Nat → Nat → Bool} {b : Bool} : (tabF n g).set u ((rowF n g u).set v b) = tabF n (updF g u v b) := by
  apply List.ext_getElem (by simp)
  intro i h1 h2
  rw [List.getElem_set, tabF_get]
  by_cases e : u = i
  · subst e; rw [if_pos rfl, rowF_set, tabF_get]
  · rw [if_neg e, tabF_get]
    unfold rowF
    apply List.map_congr_left
    intro j hj
    unfold updF
    rw [if_neg (fun h => e h.1.symm)]
theorem tabF_congr {n : Nat} {g g' : Nat → Nat → Bool} (h : ∀ i j, i < n → j < n → g i j = g' i j) : tabF n g = tabF n g' := by
  unfold tabF
  apply List.map_congr_left
  intro i hi
  apply List.map_congr_left
  intro j hj
  exact h i j (List.mem_range.1 hi) (List.mem_range.1 hj)
/-- the table, told as rows of the store's objects, and as plain data -/
def bRow (l : List Bool) : List (List PV) := l.map boolRow
def tabRowF (l : List Bool) : List PV := [.list (l.map boolRow)]
instance : FlatRow tabRowF := ⟨fun x => by simp [tabRowF, flatV]⟩
theorem tabF_put {n u v : Nat} {g : Nat → Nat → Bool} {b : Bool} : ((tabF n g).map (List.map boolRow)).set u (((rowF n g u).map boolRow).set v [.bool b]) = (tabF n (updF g u v b)).map (List.map boolRow) := by
  rw [← tabF_set, List.map_set, List.map_set]; rfl
/-- where Warshall stands -/
def atW (E : List (Int × Int)) (k i j : Nat) (a b : Nat) : Bool := if a < i ∨ (a = i ∧ b < j) then wsh E (k + 1) a b else wsh E k a b
theorem atW_next {E : List (Int × Int)} {k i j : Nat} : updF (atW E k i j) i j (atW E k i j i j || (atW E k i j i k && atW E k i j k j)) = atW E k i (j + 1) := by
  have h1 : atW E k i j i j = wsh E k i j := by unfold atW; rw [if_neg (by omega)]
  have h2 : atW E k i j i k = wsh E k i k := by unfold atW; split <;> simp [wsh_col]
  have h3 : atW E k i j k j = wsh E k k j := by unfold atW; split <;> simp [wsh_row]
  funext a b
  unfold updF
  rw [h1, h2, h3]
  by_cases e : a = i ∧ b = j
  · obtain ⟨rfl, rfl⟩ := e
    rw [if_pos ⟨rfl, rfl⟩]
    unfold atW
    rw [if_pos (by omega), wsh]
  · rw [if_neg e]
    unfold atW
    by_cases h : a < i ∨ (a = i ∧ b < j)
    · rw [if_pos h, if_pos (by omega)]
    · rw [if_neg h, if_neg (by omega)]
theorem atW_row {E : List (Int × Int)} {n k i : Nat} : tabF n (atW E k i n) = tabF n (atW E k (i + 1) 0) := tabF_congr fun a b ha hb => by
  unfold atW
  by_cases h : a < i ∨ (a = i ∧ b < n)
  · rw [if_pos h, if_pos (by omega)]
  · rw [if_neg h, if_neg (by omega)]
theorem atW_zero {E : List (Int × Int)} {n k : Nat} : tabF n (atW E k 0 0) = tabF n (wsh E k) := tabF_congr fun a b ha hb => by
  unfold atW; rw [if_neg (by omega)]
theorem atW_all {E : List (Int × Int)} {n k : Nat} : tabF n (atW E k n 0) = tabF n (wsh E (k + 1)) := tabF_congr fun a b ha hb => by
  unfold atW; rw [if_pos (by omega)]
end Go.Proofs.Ythnobaacfjihcaa
