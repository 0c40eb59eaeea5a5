/-
  Plain law: the parts of a formula, and what the bits of a set say.
-/
import Derived.Test.YtliockncjdeloaaQPa
import Derived.Test.YtliockncjdeloaaQMK
namespace Go.Proofs.Ytliockncjdeloaa
open Go Go.Pv
set_option linter.unusedVariables false
set_option linter.unusedSimpArgs false
set_option maxRecDepth 100000

theorem Td.pre {f x : Fm} (h : Td f) (hx : x ∈ pre f) : Td x := fun y hy => h y ((pre_sub f h.ok x hx).2.2 y hy)
theorem mem_partsS {x : Fm} : ∀ (l : List Fm) (had : List ByteArray), (∀ y ∈ l, Td y) → x ∈ l → x ∈ partsS had l ∨ said x 1 ∈ had
  | y :: r, had, ht, h => by
    rw [partsS]
    have hr : ∀ z ∈ r, Td z := fun z hz => ht z (List.mem_cons_of_mem _ hz)
    split
    · rename_i hm
      rcases List.mem_cons.1 h with rfl | h
      · exact .inr (memB_iff.1 hm)
      · exact mem_partsS r had hr h
    · rcases List.mem_cons.1 h with rfl | h
      · exact .inl List.mem_cons_self
      · rcases mem_partsS r _ hr h with h1 | h1
        · exact .inl (List.mem_cons_of_mem _ h1)
        · rcases List.mem_append.1 h1 with h2 | h2
          · exact .inr h2
          · rw [List.mem_singleton] at h2
            rw [said_inj (ht _ List.mem_cons_self) (ht x (List.mem_cons_of_mem _ h)) h2.symm]
            exact .inl List.mem_cons_self
theorem partsS_not {x : Fm} : ∀ (l : List Fm) (had : List ByteArray), x ∈ partsS had l → said x 1 ∉ had
  | [], had, h => by cases h
  | y :: r, had, h => by
    rw [partsS] at h
    split at h
    · exact partsS_not r had h
    · rename_i hm
      rcases List.mem_cons.1 h with rfl | h
      · exact fun g => hm (memB_iff.2 g)
      · exact fun g => partsS_not r _ h (List.mem_append_left _ g)
theorem partsS_nodup : ∀ (l : List Fm) (had : List ByteArray), (partsS had l).Nodup
  | [], had => List.nodup_nil
  | y :: r, had => by
    rw [partsS]
    split
    · exact partsS_nodup r had
    · refine List.nodup_cons.2 ⟨fun h => partsS_not r _ h ?_, partsS_nodup r _⟩
      exact List.mem_append_right _ (List.mem_singleton.2 rfl)
/-- the parts of a formula: a list that is closed under parts, nothing twice, itself ahead -/
structure Parts (l : List Fm) : Prop where
  td : ∀ g ∈ l, Td g
  kid : ∀ g ∈ l, ∀ k ∈ g.kids, k ∈ l
  nd : l.Nodup
theorem partsS_head (f : Fm) : ∃ r, partsS [] (pre f) = f :: r := by
  rw [pre_eq, partsS]
  exact ⟨_, if_neg (by simp [memB])⟩
theorem parts_all {f : Fm} (h : Td f) : Parts (partsS [] (pre f)) where
  td := fun g hg => h.pre (partsS_mem hg)
  kid := fun g hg k hk => by
    have h1 := partsS_mem hg
    have h2 : k ∈ pre f := (pre_sub f h.ok g h1).2.2 k (by rw [pre_eq]; exact List.mem_cons_of_mem _ (pres_mem (by rw [pre_eq]; exact List.mem_cons_self) _ hk))
    rcases mem_partsS (pre f) [] (fun y hy => h.pre hy) h2 with h3 | h3
    · exact h3
    · cases h3
  nd := partsS_nodup _ _

section
variable {lg : Nat} {l : List Fm} {ws : List Nat} (P : Parts l)
include P
theorem kid_at {i j : Nat} {g k : Fm} (hg : l[i]? = some g) (hk : g.kids[j]? = some k) : ∃ m, l[m]? = some k ∧ (sceneOf lg l ws).kid i j = m := by
  obtain ⟨hi, hg'⟩ := List.getElem?_eq_some_iff.1 hg
  obtain ⟨hj, hk'⟩ := List.getElem?_eq_some_iff.1 hk
  have hmem : g ∈ l := hg' ▸ List.getElem_mem hi
  obtain ⟨m, hm, h1, h2⟩ := indexF_mem (P.kid g hmem k (hk' ▸ List.getElem_mem hj))
  refine ⟨m, by rw [List.getElem?_eq_getElem hm, h2], ?_⟩
  unfold Sc.kid sceneOf
  simp only [List.getElem?_map, hg, Option.map_some, Option.getD_some, kidsL, hk, idxF, h1]
  simp
end
theorem kind_at {lg : Nat} {l : List Fm} {ws : List Nat} {i : Nat} {g : Fm} (hg : l[i]? = some g) : (sceneOf lg l ws).kind i = g.kind := by
  unfold Sc.kind sceneOf; simp only [hg, Option.map_some, Option.getD_some]
theorem and_sans {x y : Nat} : sans x y = 0 ↔ ∀ i, x.testBit i = true → y.testBit i = true := by
  constructor
  · intro h i hx
    have : (sans x y).testBit i = false := by rw [h]; simp
    simp only [sans, Nat.testBit_xor, Nat.testBit_and, hx] at this
    simpa using this
  · intro h
    apply Nat.eq_of_testBit_eq
    intro i
    simp only [sans, Nat.testBit_xor, Nat.testBit_and, Nat.zero_testBit]
    have := h i
    cases hx : x.testBit i <;> cases hy : y.testBit i <;> simp_all
theorem kindB_at {l : List Fm} {k : Int} {i : Nat} {g : Fm} (hg : l[i]? = some g) : kindB l k i = decide (g.kind = k) := by unfold kindB; rw [hg]
theorem boxes_bit {lg : Nat} {l : List Fm} {ws : List Nat} {i : Nat} : (sceneOf lg l ws).boxes.testBit i = true ↔ ∃ g, l[i]? = some g ∧ g.kind = 8 := by
  show (bitsN (kindB l 8) l.length).testBit i = true ↔ _
  rw [bitsN_bit, Bool.and_eq_true, decide_eq_true_eq]
  constructor
  · rintro ⟨h1, h2⟩
    rw [kindB_at (List.getElem?_eq_getElem h1)] at h2
    exact ⟨_, List.getElem?_eq_getElem h1, by simpa using h2⟩
  · rintro ⟨g, h1, h2⟩
    exact ⟨(List.getElem?_eq_some_iff.1 h1).1, by rw [kindB_at h1]; simpa using h2⟩
theorem dias_bit {lg : Nat} {l : List Fm} {ws : List Nat} {i : Nat} : (sceneOf lg l ws).dias.testBit i = true ↔ ∃ g, l[i]? = some g ∧ g.kind = 9 := by
  show (bitsN (kindB l 9) l.length).testBit i = true ↔ _
  rw [bitsN_bit, Bool.and_eq_true, decide_eq_true_eq]
  constructor
  · rintro ⟨h1, h2⟩
    rw [kindB_at (List.getElem?_eq_getElem h1)] at h2
    exact ⟨_, List.getElem?_eq_getElem h1, by simpa using h2⟩
  · rintro ⟨g, h1, h2⟩
    exact ⟨(List.getElem?_eq_some_iff.1 h1).1, by rw [kindB_at h1]; simpa using h2⟩
section
variable {lg : Nat} {l : List Fm} {ws : List Nat} {x y : Nat}
theorem ahead_iff : (sceneOf lg l ws).ahead x y = true ↔ ∀ i g, l[i]? = some g → (g.kind = 8 → x.testBit i = true → y.testBit ((sceneOf lg l ws).kid i 0) = true) ∧ (g.kind = 9 → y.testBit ((sceneOf lg l ws).kid i 0) = true → x.testBit i = true) := by
  unfold Sc.ahead
  rw [List.all_eq_true]
  constructor
  · intro h i g hg
    have h1 := h i (List.mem_range.2 (List.getElem?_eq_some_iff.1 hg).1)
    unfold Sc.step at h1
    rw [kind_at hg] at h1
    refine ⟨fun hk hx => ?_, fun hk hy => ?_⟩
    · rw [hk, hx] at h1
      cases hb : y.testBit ((sceneOf lg l ws).kid i 0) <;> simp_all
    · rw [hk, hy] at h1
      cases hb : x.testBit i <;> simp_all
  · intro h i hi
    have hi : i < l.length := List.mem_range.1 hi
    obtain ⟨h1, h2⟩ := h i _ (List.getElem?_eq_getElem hi)
    unfold Sc.step
    rw [kind_at (List.getElem?_eq_getElem hi)]
    by_cases h8 : (l[i]'hi).kind = 8
    · have := h1 h8
      simp only [h8]
      cases hx : x.testBit i <;> simp_all
    · by_cases h9 : (l[i]'hi).kind = 9
      · have := h2 h9
        simp only [h9]
        cases hy : y.testBit ((sceneOf lg l ws).kid i 0) <;> simp_all
      · simp [h8, h9]
theorem more_iff : (sceneOf lg l ws).more x y = true ↔ ∀ i g, l[i]? = some g → (g.kind = 8 → x.testBit i = true → y.testBit i = true) ∧ (g.kind = 9 → y.testBit i = true → x.testBit i = true) := by
  unfold Sc.more
  rw [Bool.and_eq_true, decide_eq_true_eq, decide_eq_true_eq, and_sans, and_sans]
  simp only [Nat.testBit_and, Bool.and_eq_true]
  constructor
  · rintro ⟨h1, h2⟩ i g hg
    exact ⟨fun hk hx => h1 i ⟨hx, boxes_bit.2 ⟨g, hg, hk⟩⟩, fun hk hy => h2 i ⟨hy, dias_bit.2 ⟨g, hg, hk⟩⟩⟩
  · intro h
    refine ⟨fun i ⟨hx, hb⟩ => ?_, fun i ⟨hy, hb⟩ => ?_⟩
    · obtain ⟨g, hg, hk⟩ := boxes_bit.1 hb
      exact (h i g hg).1 hk hx
    · obtain ⟨g, hg, hk⟩ := dias_bit.1 hb
      exact (h i g hg).2 hk hy
theorem alike_iff : (sceneOf lg l ws).alike x y = true ↔ ∀ i g, l[i]? = some g → (g.kind = 8 ∨ g.kind = 9) → x.testBit i = y.testBit i := by
  unfold Sc.alike
  rw [decide_eq_true_eq]
  constructor
  · intro h i g hg hk
    have h1 := congrArg (fun z => z.testBit i) h
    simp only [Nat.testBit_and, Nat.testBit_or] at h1
    have : ((sceneOf lg l ws).boxes.testBit i || (sceneOf lg l ws).dias.testBit i) = true := by
      rw [Bool.or_eq_true]
      exact hk.imp (fun hk => boxes_bit.2 ⟨g, hg, hk⟩) (fun hk => dias_bit.2 ⟨g, hg, hk⟩)
    rw [this] at h1
    simpa using h1
  · intro h
    apply Nat.eq_of_testBit_eq
    intro i
    simp only [Nat.testBit_and, Nat.testBit_or]
    cases hb : ((sceneOf lg l ws).boxes.testBit i || (sceneOf lg l ws).dias.testBit i)
    · simp
    · rw [Bool.or_eq_true] at hb
      have : x.testBit i = y.testBit i := by
        rcases hb with hb | hb
        · obtain ⟨g, hg, hk⟩ := boxes_bit.1 hb; exact h i g hg (.inl hk)
        · obtain ⟨g, hg, hk⟩ := dias_bit.1 hb; exact h i g hg (.inr hk)
      rw [this]
end
end Go.Proofs.Ytliockncjdeloaa
