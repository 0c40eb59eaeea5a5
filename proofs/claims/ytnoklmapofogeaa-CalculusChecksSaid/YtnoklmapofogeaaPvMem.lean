/-
  Values seen as data, the second text: what reading, writing and making memory do to the store.
-/
import Derived.Test.YtnoklmapofogeaaPv
namespace Go.Pv
open Go Go.RowKit
set_option linter.unusedVariables false
set_option linter.unusedSimpArgs false

theorem ObjOK.mono {p q : PHeap} {σ τ : Sig} {w w' : World} {i : Nat} {o : PObj} (h : ObjOK p σ w i o) (hp : p.le q) (hσ : σ.le τ)
    (hb : ∀ l, o ≠ .dead → σ i = some l → 0 < l.n → w'.heap[l.b]? = w.heap[l.b]? ∧ q l.b = p l.b) : ObjOK q τ w' i o := by
  cases o with
  | dead => trivial
  | rows z rs =>
    obtain ⟨l, h1, hz, h2, h3⟩ := h
    refine ⟨l, hσ _ _ h1, hz, h2, fun hn => ?_⟩
    obtain ⟨h4, cs, ty, h5, h6, h7⟩ := h3 hn
    have hx := hb l (by simp) h1 hn
    exact ⟨hx.2.trans h4, cs, ty, hx.1.trans h5, h6, h7.wide, fun r row j v c a b d => (h7.rel r row j v c a b d).mono hp hσ⟩
  | iter s pos =>
    obtain ⟨l, h1, h2, h3, h4, h5, h6⟩ := h
    have hx := hb l (by simp) h1 (by omega)
    exact ⟨l, hσ _ _ h1, hx.2.trans h2, h3, h4, h5, hx.1.trans h6⟩
  | map es =>
    obtain ⟨l, h1, h2, h3, h4, h5, xs, clock, h6, h7, h8⟩ := h
    have hx := hb l (by simp) h1 (by omega)
    exact ⟨l, hσ _ _ h1, hx.2.trans h2, h3, h4, h5, xs, clock, hx.1.trans h6, h7, fun j k v e a b => ⟨(h8 j k v e a b).1.mono hp hσ, (h8 j k v e a b).2.mono hp hσ⟩⟩

theorem RowsIn.up {p : PHeap} {σ τ : Sig} {rs : List (List PV)} {cs : Array Value} {o esz : Nat} (h : RowsIn (Rel p σ) rs cs o esz) (hσ : σ.le τ) : RowsIn (Rel p τ) rs cs o esz :=
  ⟨h.wide, fun r row j v c a b d => (h.rel r row j v c a b d).up hσ⟩

theorem ObjOK.alive {p : PHeap} {σ : Sig} {w : World} {s : Store} {i : Nat} {l : Loc} (h : ∀ i o, s[i]? = some o → ObjOK p σ w i o) (ha : Alive s σ i l) : p l.b = none ∧ l.b < w.heap.size := by
  obtain ⟨o, h1, h2, h3, h4⟩ := ha
  have hx := h i o h1
  cases o with
  | dead => exact absurd rfl h2
  | rows z rs =>
    obtain ⟨l', e, _, _, h5⟩ := hx
    rw [h3] at e; cases e
    obtain ⟨h6, cs, ty, h7, _⟩ := h5 h4
    exact ⟨h6, by rcases Nat.lt_or_ge l.b w.heap.size with h | h; exact h; simp [Array.getElem?_eq_none h] at h7⟩
  | iter t pos =>
    obtain ⟨l', e, h5, _, _, _, h6⟩ := hx
    rw [h3] at e; cases e
    exact ⟨h5, by rcases Nat.lt_or_ge l.b w.heap.size with h | h; exact h; simp [Array.getElem?_eq_none h] at h6⟩
  | map es =>
    obtain ⟨l', e, h5, _, _, _, xs, clock, h6, _⟩ := hx
    rw [h3] at e; cases e
    exact ⟨h5, by rcases Nat.lt_or_ge l.b w.heap.size with h | h; exact h; simp [Array.getElem?_eq_none h] at h6⟩

theorem Base.pub_size {p : PHeap} {σ : Sig} {s : Store} {w : World} (h : Base p σ s w) {b : Nat} (hb : w.heap.size ≤ b) : p b = none := by
  cases e : p b with
  | none => rfl
  | some o => have := h.pubIn b o e; simp [Array.getElem?_eq_none hb] at this

def Sig.add (σ : Sig) (i : Nat) (l : Loc) : Sig := fun j => if j = i then some l else σ j
theorem Sig.add_same (σ : Sig) (i : Nat) (l : Loc) : σ.add i l i = some l := by simp [Sig.add]
theorem Base.le_add {p : PHeap} {σ : Sig} {s : Store} {w : World} (h : Base p σ s w) (l : Loc) : σ.le (σ.add s.length l) := by
  intro j l' hj
  by_cases e : j = s.length
  · subst e; rw [h.sig _ (Nat.le_refl _)] at hj; cases hj
  · simp [Sig.add, e, hj]

/-- a draw changes nothing -/
theorem SR.drawn {C : Ctx} {p : PHeap} {σ : Sig} {s : Store} {w w' : World} (h : SR C p σ s w) (e1 : w'.heap = w.heap) (e2 : w'.os = w.os) (e3 : w'.tape = w.tape) (e4 : w'.output = w.output) : SR C p σ s w' where
  pubIn := by rw [e1]; exact h.pubIn
  obj := fun i o hi => (h.obj i o hi).mono PHeap.le.rfl' Sig.le.rfl' (fun l _ _ _ => ⟨by rw [e1], rfl⟩)
  inj := h.inj
  sig := h.sig
  os := e2.trans h.os
  tape := e3.trans h.tape
  output := e4.trans h.output
  size := by rw [e1]; exact h.size
  frame := by rw [e1]; exact h.frame
  own := h.own
  ple := h.ple
  sle := h.sle

/-- a new object at the end of the store, in a new block -/
theorem SR.push {C : Ctx} {p : PHeap} {σ : Sig} {s : Store} {w : World} (h : SR C p σ s w) (o : Obj) (obj : PObj) (l : Loc) (hl : l.b = w.heap.size)
    (hobj : ObjOK p (σ.add s.length l) { w with heap := w.heap.push o } s.length obj) : SR C p (σ.add s.length l) (s ++ [obj]) { w with heap := w.heap.push o } := by
  have hle := h.toBase.le_add l
  have hnew : ∀ b, b < w.heap.size → (w.heap.push o)[b]? = w.heap[b]? := fun b hb => by
    rw [Array.getElem?_push]; rw [if_neg (by omega)]
  have halive : ∀ i l', Alive (s ++ [obj]) (σ.add s.length l) i l' → (i < s.length ∧ Alive s σ i l') ∨ (i = s.length ∧ l' = l) := by
    rintro i l' ⟨o', h1, h2, h3, h4⟩
    rcases Nat.lt_trichotomy i s.length with hi | hi | hi
    · rw [List.getElem?_append_left hi] at h1
      exact .inl ⟨hi, o', h1, h2, by simpa [Sig.add, Nat.ne_of_lt hi] using h3, h4⟩
    · subst hi; rw [Sig.add_same] at h3; cases h3; exact .inr ⟨rfl, rfl⟩
    · rw [List.getElem?_eq_none (by simp; omega)] at h1; cases h1
  have hlt : ∀ i l', Alive s σ i l' → l'.b < w.heap.size := fun i l' ha => (ObjOK.alive h.obj ha).2
  exact {
    pubIn := fun b o' hb => by
      have := h.pubIn b o' hb
      show (w.heap.push o)[b]? = _
      rw [hnew b (by rcases Nat.lt_or_ge b w.heap.size with h | h; exact h; simp [Array.getElem?_eq_none h] at this)]; exact this
    obj := fun i o' hi => by
      rcases Nat.lt_trichotomy i s.length with hlt' | rfl | hgt
      · rw [List.getElem?_append_left hlt'] at hi
        refine (h.obj i o' hi).mono PHeap.le.rfl' hle fun l' hd hσ hn => ⟨hnew _ (hlt i l' ⟨o', hi, hd, hσ, hn⟩), rfl⟩
      · simp at hi; subst hi; exact hobj
      · rw [List.getElem?_eq_none (by simp; omega)] at hi; cases hi
    inj := fun i j li lj hi hj e => by
      rcases halive i li hi with ⟨h1, h2⟩ | ⟨h1, h2⟩ <;> rcases halive j lj hj with ⟨h3, h4⟩ | ⟨h3, h4⟩
      · exact h.inj i j li lj h2 h4 e
      · have := hlt i li h2; subst h4; omega
      · have := hlt j lj h4; subst h2; omega
      · omega
    sig := fun i hi => by
      have : i ≠ s.length := by simp at hi; omega
      simp only [Sig.add, this, if_false]
      exact h.sig i (by simp at hi; omega)
    os := h.os
    tape := h.tape
    output := h.output
    size := by have := h.size; simp; omega
    frame := fun b hb hd => by
      have h1 := h.frame b hb hd
      exact ⟨(hnew b (Nat.lt_of_lt_of_le hb h.size)).trans h1.1, h1.2⟩
    own := fun i l' hi => by
      rcases halive i l' hi with ⟨h1, h2⟩ | ⟨h1, h2⟩
      · exact h.own i l' h2
      · subst h2; rw [hl]; exact .inr h.size
    ple := h.ple
    sle := h.sle.trans hle }

/-- an object of the store is written, in its own block -/
theorem SR.write {C : Ctx} {p : PHeap} {σ : Sig} {s : Store} {w : World} (h : SR C p σ s w) {i : Nat} {o : PObj} {l : Loc} (hi : s[i]? = some o) (hd : o ≠ .dead) (hσ : σ i = some l) (hn : 0 < l.n)
    (o' : PObj) (b' : Obj) (hd' : o' ≠ .dead) (hobj : ObjOK p σ { w with heap := w.heap.setIfInBounds l.b b' } i o') : SR C p σ (s.set i o') { w with heap := w.heap.setIfInBounds l.b b' } := by
  have hal : Alive s σ i l := ⟨o, hi, hd, hσ, hn⟩
  have hx := ObjOK.alive h.obj hal
  have hlt : i < s.length := by rcases Nat.lt_or_ge i s.length with h | h; exact h; simp [List.getElem?_eq_none h] at hi
  have hsame : ∀ b, b ≠ l.b → (w.heap.setIfInBounds l.b b')[b]? = w.heap[b]? := fun b hb => by
    rw [Array.getElem?_setIfInBounds]; rw [if_neg (by omega)]
  have halive : ∀ j lj, Alive (s.set i o') σ j lj → Alive s σ j lj := by
    rintro j lj ⟨oj, h1, h2, h3, h4⟩
    by_cases e : j = i
    · subst e; exact ⟨o, hi, hd, h3, h4⟩
    · rw [List.getElem?_set_ne (by omega)] at h1; exact ⟨oj, h1, h2, h3, h4⟩
  exact {
    pubIn := fun b o₁ hb => by
      refine (hsame b ?_).trans (h.pubIn b o₁ hb)
      rintro rfl; rw [hx.1] at hb; cases hb
    obj := fun j oj hj => by
      by_cases e : j = i
      · subst e; rw [List.getElem?_set_self hlt] at hj; cases hj; exact hobj
      · rw [List.getElem?_set_ne (by omega)] at hj
        refine (h.obj j oj hj).mono PHeap.le.rfl' Sig.le.rfl' fun l' hdj hσj hnj => ⟨hsame _ fun eb => e (h.inj j i l' l ⟨oj, hj, hdj, hσj, hnj⟩ hal eb), rfl⟩
    inj := fun a b la lb ha hb e => h.inj a b la lb (halive a la ha) (halive b lb hb) e
    sig := fun j hj => h.sig j (by simpa using hj)
    os := h.os
    tape := h.tape
    output := h.output
    size := by have := h.size; simpa using this
    frame := fun b hb hdm => by
      have h1 := h.frame b hb hdm
      refine ⟨(hsame b ?_).trans h1.1, h1.2⟩
      rintro rfl
      rcases h.own i l hal with h2 | h2
      · exact hdm h2
      · omega
    own := fun j lj hj => h.own j lj (halive j lj hj)
    ple := h.ple
    sle := h.sle }

/-- an object is given up -/
theorem SR.drop {C : Ctx} {p : PHeap} {σ : Sig} {s : Store} {w : World} (h : SR C p σ s w) (i : Nat) : SR C p σ (s.set i .dead) w := by
  have halive : ∀ j lj, Alive (s.set i .dead) σ j lj → Alive s σ j lj := by
    rintro j lj ⟨oj, h1, h2, h3, h4⟩
    by_cases e : j = i
    · subst e
      by_cases hlt : j < s.length
      · rw [List.getElem?_set_self hlt] at h1; cases h1; exact absurd rfl h2
      · rw [List.getElem?_eq_none (by simp; omega)] at h1; cases h1
    · rw [List.getElem?_set_ne (by omega)] at h1; exact ⟨oj, h1, h2, h3, h4⟩
  exact {
    pubIn := h.pubIn
    obj := fun j oj hj => by
      by_cases e : j = i
      · subst e
        by_cases hlt : j < s.length
        · rw [List.getElem?_set_self hlt] at hj; cases hj; trivial
        · rw [List.getElem?_eq_none (by simp; omega)] at hj; cases hj
      · rw [List.getElem?_set_ne (by omega)] at hj; exact h.obj j oj hj
    inj := fun a b la lb ha hb e => h.inj a b la lb (halive a la ha) (halive b lb hb) e
    sig := fun j hj => h.sig j (by simpa using hj)
    os := h.os
    tape := h.tape
    output := h.output
    size := h.size
    frame := h.frame
    own := fun j lj hj => h.own j lj (halive j lj hj)
    ple := h.ple
    sle := h.sle }

/-- an object is handed to another number: its window may be another, its block is the same -/
theorem SR.rehome {C : Ctx} {p : PHeap} {σ : Sig} {s : Store} {w : World} (h : SR C p σ s w) (i : Nat) (o : PObj) (l l' : Loc) (hi : s[i]? = some o) (hd : o ≠ .dead) (hσ : σ i = some l) (hn : 0 < l.n) (hb : l'.b = l.b)
    (obj : PObj) (hobj : ObjOK p (σ.add s.length l') w s.length obj) : SR C p (σ.add s.length l') (s.set i .dead ++ [obj]) w := by
  have hle := h.toBase.le_add l'
  have hal : Alive s σ i l := ⟨o, hi, hd, hσ, hn⟩
  have hlt : i < s.length := by rcases Nat.lt_or_ge i s.length with h | h; exact h; simp [List.getElem?_eq_none h] at hi
  have halive : ∀ j lj, Alive (s.set i .dead ++ [obj]) (σ.add s.length l') j lj → (j ≠ i ∧ j < s.length ∧ Alive s σ j lj) ∨ (j = s.length ∧ lj = l') := by
    rintro j lj ⟨oj, h1, h2, h3, h4⟩
    rcases Nat.lt_trichotomy j s.length with hj | hj | hj
    · rw [List.getElem?_append_left (by simpa using hj)] at h1
      by_cases e : j = i
      · subst e; rw [List.getElem?_set_self hlt] at h1; cases h1; exact absurd rfl h2
      · rw [List.getElem?_set_ne (by omega)] at h1
        exact .inl ⟨e, hj, oj, h1, h2, by simpa [Sig.add, Nat.ne_of_lt hj] using h3, h4⟩
    · subst hj; rw [Sig.add_same] at h3; cases h3; exact .inr ⟨rfl, rfl⟩
    · rw [List.getElem?_eq_none (by simp; omega)] at h1; cases h1
  exact {
    pubIn := h.pubIn
    obj := fun j oj hj => by
      rcases Nat.lt_trichotomy j s.length with hj' | rfl | hgt
      · rw [List.getElem?_append_left (by simpa using hj')] at hj
        by_cases e : j = i
        · subst e; rw [List.getElem?_set_self hlt] at hj; cases hj; trivial
        · rw [List.getElem?_set_ne (by omega)] at hj
          exact (h.obj j oj hj).mono PHeap.le.rfl' hle fun _ _ _ _ => ⟨rfl, rfl⟩
      · rw [List.getElem?_append_right (by simp)] at hj; simp at hj; subst hj; exact hobj
      · rw [List.getElem?_eq_none (by simp; omega)] at hj; cases hj
    inj := fun a b la lb ha hb' e => by
      rcases halive a la ha with ⟨h1, h2, h3⟩ | ⟨h1, h2⟩ <;> rcases halive b lb hb' with ⟨h4, h5, h6⟩ | ⟨h4, h5⟩
      · exact h.inj a b la lb h3 h6 e
      · subst h5; exact absurd (h.inj a i la l h3 hal (e.trans hb)) h1
      · subst h2; exact absurd (h.inj b i lb l h6 hal (e.symm.trans hb)) h4
      · omega
    sig := fun j hj => by
      have : j ≠ s.length := by simp at hj; omega
      simp only [Sig.add, this, if_false]
      exact h.sig j (by simp at hj; omega)
    os := h.os
    tape := h.tape
    output := h.output
    size := h.size
    frame := h.frame
    own := fun j lj hj => by
      rcases halive j lj hj with ⟨h1, h2, h3⟩ | ⟨h1, h2⟩
      · exact h.own j lj h3
      · subst h2; rw [hb]; exact h.own i l hal
    ple := h.ple
    sle := h.sle.trans hle }

end Go.Pv
