/-
  Plain law: what is told valid is true in each finite model of the logic.
-/
import Derived.Test.YtliockncjdeloaaQPb
namespace Go.Proofs.Ytliockncjdeloaa
open Go Go.Pv
set_option linter.unusedVariables false
set_option linter.unusedSimpArgs false
set_option linter.unusedSectionVars false
set_option maxRecDepth 100000

section
variable {n : Nat} {t : Nat → Nat → Bool} {hold : Nat → ByteArray → Bool} {w : Nat} {nm : ByteArray} {l : List Fm} {a b : Fm}
theorem ev_1 : ev n t hold (.mk 1 nm l) w = hold w nm := by simp [ev]
theorem ev_2 : ev n t hold (.mk 2 nm l) w = true := by simp [ev]
theorem ev_3 : ev n t hold (.mk 3 nm l) w = false := by simp [ev]
theorem ev_4 : ev n t hold (.mk 4 nm [a]) w = !ev n t hold a w := by simp [ev, evs]
theorem ev_5 : ev n t hold (.mk 5 nm [a, b]) w = (ev n t hold a w && ev n t hold b w) := by simp [ev, evs]
theorem ev_6 : ev n t hold (.mk 6 nm [a, b]) w = (ev n t hold a w || ev n t hold b w) := by simp [ev, evs]
theorem ev_7 : ev n t hold (.mk 7 nm [a, b]) w = (!ev n t hold a w || ev n t hold b w) := by simp [ev, evs]
theorem ev_8 : ev n t hold (.mk 8 nm [a]) w = true ↔ ∀ v, v < n → t w v = true → ev n t hold a v = true := by
  simp [ev, evs]
  exact ⟨fun h v hv ht => by have := h v hv; rw [ht] at this; simpa using this, fun h v hv => by cases ht : t w v <;> simp [h v hv, ht]⟩
theorem ev_9 : ev n t hold (.mk 9 nm [a]) w = true ↔ ∃ v, v < n ∧ t w v = true ∧ ev n t hold a v = true := by simp [ev, evs]
end
theorem ev_8f {n : Nat} {t : Nat → Nat → Bool} {hold : Nat → ByteArray → Bool} {w : Nat} {nm : ByteArray} {a : Fm} : ev n t hold (.mk 8 nm [a]) w = false ↔ ∃ v, v < n ∧ t w v = true ∧ ev n t hold a v = false := by
  rw [← Bool.not_eq_true, ev_8]
  constructor
  · intro h
    refine Classical.byContradiction fun g => h fun v hv ht => ?_
    cases he : ev n t hold a v
    · exact absurd ⟨v, hv, ht, he⟩ g
    · rfl
  · rintro ⟨v, hv, ht, he⟩ h
    rw [h v hv ht] at he; cases he

/-- the finite models of a logic -/
structure Frame (lg n : Nat) (t : Nat → Nat → Bool) : Prop where
  ser : lg = 2 → ∀ u, u < n → ∃ v, v < n ∧ t u v = true
  refl : lg = 3 ∨ lg = 5 ∨ lg = 6 ∨ lg = 7 → ∀ u, u < n → t u u = true
  trans : lg = 4 ∨ lg = 5 ∨ lg = 6 ∨ lg = 8 → ∀ u v w, u < n → v < n → w < n → t u v = true → t v w = true → t u w = true
  symm : lg = 6 ∨ lg = 7 → ∀ u v, u < n → v < n → t u v = true → t v u = true
  irr : lg = 8 → ∀ u, u < n → t u u = false
def ValidF (lg : Nat) (f : Fm) : Prop := ∀ n t hold, Frame lg n t → ∀ w, w < n → ev n t hold f w = true

/-- in a finite order, what is above is above some last one -/
theorem last_one {n : Nat} {t : Nat → Nat → Bool} (ht : ∀ u v w, u < n → v < n → w < n → t u v = true → t v w = true → t u w = true) (hi : ∀ u, u < n → t u u = false) (p : Nat → Prop) :
    ∀ m v, v < n → p v → ((List.range n).filter (t v)).length ≤ m → ∃ u, u < n ∧ p u ∧ (u = v ∨ t v u = true) ∧ ∀ x, x < n → t u x = true → ¬ p x := by
  intro m
  induction m with
  | zero =>
    intro v hv hp hm
    refine ⟨v, hv, hp, .inl rfl, fun x hx htx => ?_⟩
    have : x ∈ (List.range n).filter (t v) := List.mem_filter.2 ⟨List.mem_range.2 hx, htx⟩
    have := List.length_pos_of_mem this
    omega
  | succ m ih =>
    intro v hv hp hm
    by_cases h : ∃ x, x < n ∧ t v x = true ∧ p x
    · obtain ⟨x, hx, htx, hpx⟩ := h
      have hle : ((List.range n).filter (t x)).length < ((List.range n).filter (t v)).length := by
        have h1 : ((List.range n).filter (t x)).Nodup := List.Pairwise.filter _ List.nodup_range
        have h2 : x ∉ (List.range n).filter (t x) := fun h => by
          have := (List.mem_filter.1 h).2; rw [hi x hx] at this; cases this
        have h3 := nodup_le (x :: (List.range n).filter (t x)) ((List.range n).filter (t v)) (List.nodup_cons.2 ⟨h2, h1⟩) fun y hy => by
          rcases List.mem_cons.1 hy with rfl | hy
          · exact List.mem_filter.2 ⟨List.mem_range.2 hx, htx⟩
          · obtain ⟨g1, g2⟩ := List.mem_filter.1 hy
            exact List.mem_filter.2 ⟨g1, ht v x y hv hx (List.mem_range.1 g1) htx g2⟩
        simp at h3; omega
      obtain ⟨u, hu, hpu, h4, h5⟩ := ih x hx hpx (by omega)
      refine ⟨u, hu, hpu, .inr ?_, h5⟩
      rcases h4 with rfl | h4
      · exact htx
      · exact ht v x u hv hx hu htx h4
    · exact ⟨v, hv, hp, .inl rfl, fun x hx htx hpx => h ⟨x, hx, htx, hpx⟩⟩
theorem last_of {n : Nat} {t : Nat → Nat → Bool} (ht : ∀ u v w, u < n → v < n → w < n → t u v = true → t v w = true → t u w = true) (hi : ∀ u, u < n → t u u = false) (p : Nat → Prop) {w v : Nat} (hw : w < n) (hv : v < n) (hwv : t w v = true) (hp : p v) :
    ∃ u, u < n ∧ t w u = true ∧ p u ∧ ∀ x, x < n → t u x = true → ¬ p x := by
  obtain ⟨u, hu, h1, h2, h3⟩ := last_one ht hi p _ v hv hp (Nat.le_refl _)
  refine ⟨u, hu, ?_, h1, h3⟩
  rcases h2 with rfl | h2
  · exact hwv
  · exact ht w v u hw hv hu hwv h2

theorem sees_iff {lg : Nat} {l : List Fm} {ws : List Nat} {x y : Nat} : (sceneOf lg l ws).sees x y = true ↔ (sceneOf lg l ws).ahead x y = true ∧ (lg = 4 ∨ lg = 5 ∨ lg = 8 → (sceneOf lg l ws).more x y = true) ∧ (lg = 6 → (sceneOf lg l ws).alike x y = true) ∧ (lg = 7 → (sceneOf lg l ws).ahead y x = true) ∧ (lg = 8 → (sceneOf lg l ws).alike x y = false) := by
  unfold Sc.sees
  rw [show (sceneOf lg l ws).lg = lg from rfl]
  generalize (sceneOf lg l ws).ahead x y = p1
  generalize (sceneOf lg l ws).more x y = p2
  generalize (sceneOf lg l ws).alike x y = p3
  generalize (sceneOf lg l ws).ahead y x = p4
  split
  · rename_i h
    simp only [Bool.and_eq_true]
    constructor
    · rintro ⟨h1, h2⟩; exact ⟨h1, fun _ => h2, fun g => by omega, fun g => by omega, fun g => by omega⟩
    · rintro ⟨h1, h2, _⟩; exact ⟨h1, h2 (by omega)⟩
  · split
    · simp only [Bool.and_eq_true]
      constructor
      · rintro ⟨h1, h2⟩; exact ⟨h1, fun g => by omega, fun _ => h2, fun g => by omega, fun g => by omega⟩
      · rintro ⟨h1, _, h2, _⟩; exact ⟨h1, h2 (by omega)⟩
    · split
      · simp only [Bool.and_eq_true]
        constructor
        · rintro ⟨h1, h2⟩; exact ⟨h1, fun g => by omega, fun g => by omega, fun _ => h2, fun g => by omega⟩
        · rintro ⟨h1, _, _, h2, _⟩; exact ⟨h1, h2 (by omega)⟩
      · split
        · simp only [Bool.and_eq_true, Bool.not_eq_true']
          constructor
          · rintro ⟨⟨h1, h2⟩, h3⟩; exact ⟨h1, fun g => h2, fun g => by omega, fun g => by omega, fun _ => h3⟩
          · rintro ⟨h1, h2, _, _, h3⟩; exact ⟨⟨h1, h2 (by omega)⟩, h3 (by omega)⟩
        · constructor
          · intro h1; exact ⟨h1, fun g => by omega, fun g => by omega, fun g => by omega, fun g => by omega⟩
          · exact fun h => h.1

section
variable {lg : Nat} {l : List Fm} (P : Parts l) {n : Nat} {t : Nat → Nat → Bool} {hold : Nat → ByteArray → Bool} (F : Frame lg n t) {ws : List Nat}
/-- what is true at a world, as a set -/
def typ (l : List Fm) (n : Nat) (t : Nat → Nat → Bool) (hold : Nat → ByteArray → Bool) (w : Nat) : Nat := bitsN (fun i => match l[i]? with | some g => ev n t hold g w | none => false) l.length
theorem typ_bit {w i : Nat} {g : Fm} (hg : l[i]? = some g) : (typ l n t hold w).testBit i = ev n t hold g w := by
  unfold typ
  rw [bitsN_bit]
  simp only [hg, (List.getElem?_eq_some_iff.1 hg).1, decide_true, Bool.true_and]
include P
theorem typ_kid {w i j : Nat} {g k : Fm} (hg : l[i]? = some g) (hk : g.kids[j]? = some k) : (typ l n t hold w).testBit ((sceneOf lg l ws).kid i j) = ev n t hold k w := by
  obtain ⟨m, h1, h2⟩ := kid_at (lg := lg) (ws := ws) P hg hk
  rw [h2, typ_bit h1]
include F
theorem typ_locl {w : Nat} (hw : w < n) : (sceneOf lg l ws).locl (typ l n t hold w) = true := by
  unfold Sc.locl
  rw [List.all_eq_true]
  intro i hi
  have hil : i < l.length := List.mem_range.1 hi
  have hg := List.getElem?_eq_getElem hil
  generalize hgg : l[i] = g at hg
  have htd : Td g := P.td g (hgg ▸ List.getElem_mem hil)
  have hkind := kind_at (lg := lg) (ws := ws) hg
  have hk := fun j k h => typ_kid (lg := lg) (ws := ws) (n := n) (t := t) (hold := hold) (w := w) P hg (j := j) (k := k) h
  simp only [beq_iff_eq, Sc.want, hkind, typ_bit hg]
  have hr : (sceneOf lg l ws).refl = true → lg = 3 ∨ lg = 5 ∨ lg = 6 ∨ lg = 7 := fun h => by unfold Sc.refl at h; exact of_decide_eq_true h
  rcases htd.nine with ⟨nm, hn, rfl⟩ | rfl | rfl | ⟨a, ha, rfl⟩ | ⟨a, b, ha, hb, rfl⟩ | ⟨a, b, ha, hb, rfl⟩ | ⟨a, b, ha, hb, rfl⟩ | ⟨a, ha, rfl⟩ | ⟨a, ha, rfl⟩
  all_goals simp only [Fm.kind]
  · simp
  · simp [ev_2]
  · simp [ev_3]
  · simp [ev_4, hk 0 a rfl]
  · simp [ev_5, hk 0 a rfl, hk 1 b rfl]
  · simp [ev_6, hk 0 a rfl, hk 1 b rfl]
  · simp [ev_7, hk 0 a rfl, hk 1 b rfl]
  · simp only [hk 0 a rfl]
    cases he : ev n t hold (.mk 8 ⟨#[]⟩ [a]) w
    · simp
    · cases hrf : (sceneOf lg l ws).refl
      · simp
      · have := ev_8.1 he w hw (F.refl (hr hrf) w hw)
        simp [this]
  · simp only [hk 0 a rfl]
    cases he : ev n t hold (.mk 9 ⟨#[]⟩ [a]) w
    · cases hrf : (sceneOf lg l ws).refl
      · simp
      · cases hea : ev n t hold a w
        · simp
        · have := ev_9 (nm := ⟨#[]⟩).2 ⟨w, hw, F.refl (hr hrf) w hw, hea⟩
          rw [he] at this; cases this
    · simp
theorem typ_ahead {w v : Nat} (hw : w < n) (hv : v < n) (ht : t w v = true) : (sceneOf lg l ws).ahead (typ l n t hold w) (typ l n t hold v) = true := by
  refine ahead_iff.2 fun i g hg => ?_
  have htd : Td g := P.td g (List.mem_of_getElem? hg)
  rw [typ_bit hg]
  rcases htd.nine with ⟨nm, hn, rfl⟩ | rfl | rfl | ⟨a, ha, rfl⟩ | ⟨a, b, ha, hb, rfl⟩ | ⟨a, b, ha, hb, rfl⟩ | ⟨a, b, ha, hb, rfl⟩ | ⟨a, ha, rfl⟩ | ⟨a, ha, rfl⟩
  all_goals simp only [Fm.kind]
  all_goals try exact ⟨fun h => absurd h (by decide), fun h => absurd h (by decide)⟩
  · refine ⟨fun _ he => ?_, fun h => absurd h (by decide)⟩
    rw [typ_kid P hg (show (Fm.mk 8 ⟨#[]⟩ [a]).kids[0]? = some a from rfl)]
    exact ev_8.1 he v hv ht
  · refine ⟨fun h => absurd h (by decide), fun _ he => ?_⟩
    rw [typ_kid P hg (show (Fm.mk 9 ⟨#[]⟩ [a]).kids[0]? = some a from rfl)] at he
    exact ev_9.2 ⟨v, hv, ht, he⟩
theorem typ_more {w v : Nat} (hw : w < n) (hv : v < n) (ht : t w v = true) (hl : lg = 4 ∨ lg = 5 ∨ lg = 6 ∨ lg = 8) : (sceneOf lg l ws).more (typ l n t hold w) (typ l n t hold v) = true := by
  refine more_iff.2 fun i g hg => ?_
  have htd : Td g := P.td g (List.mem_of_getElem? hg)
  rw [typ_bit hg, typ_bit hg]
  rcases htd.nine with ⟨nm, hn, rfl⟩ | rfl | rfl | ⟨a, ha, rfl⟩ | ⟨a, b, ha, hb, rfl⟩ | ⟨a, b, ha, hb, rfl⟩ | ⟨a, b, ha, hb, rfl⟩ | ⟨a, ha, rfl⟩ | ⟨a, ha, rfl⟩
  all_goals simp only [Fm.kind]
  all_goals try exact ⟨fun h => absurd h (by decide), fun h => absurd h (by decide)⟩
  · refine ⟨fun _ he => ?_, fun h => absurd h (by decide)⟩
    exact ev_8.2 fun u hu htu => ev_8.1 he u hu (F.trans hl w v u hw hv hu ht htu)
  · refine ⟨fun h => absurd h (by decide), fun _ he => ?_⟩
    obtain ⟨u, hu, htu, h⟩ := ev_9.1 he
    exact ev_9.2 ⟨u, hu, F.trans hl w v u hw hv hu ht htu, h⟩
theorem typ_sees {w v : Nat} (hw : w < n) (hv : v < n) (ht : t w v = true) (h8 : lg = 8 → (sceneOf lg l ws).alike (typ l n t hold w) (typ l n t hold v) = false) : (sceneOf lg l ws).sees (typ l n t hold w) (typ l n t hold v) = true := by
  refine sees_iff.2 ⟨typ_ahead P F hw hv ht, fun h => typ_more P F hw hv ht (by omega), fun h => ?_, fun h => typ_ahead P F hv hw (F.symm (.inr h) w v hw hv ht), h8⟩
  have h1 := more_iff.1 (typ_more (hold := hold) (ws := ws) P F hw hv ht (by omega))
  have h2 := more_iff.1 (typ_more (hold := hold) (ws := ws) P F hv hw (F.symm (.inl h) w v hw hv ht) (by omega))
  refine alike_iff.2 fun i g hg hk => ?_
  have g1 := h1 i g hg
  have g2 := h2 i g hg
  rw [Bool.eq_iff_iff]
  rcases hk with hk | hk
  · exact ⟨g1.1 hk, g2.1 hk⟩
  · exact ⟨g2.2 hk, g1.2 hk⟩
end
end Go.Proofs.Ytliockncjdeloaa
