/-
  Values seen as data: some objects of the store are given away: from then on nobody writes them, and they are read as plain data.
-/
import Derived.Test.YtnoklmapofogeaaVPvMix
namespace Go.Pv
open Go Go.RowKit
set_option linter.unusedVariables false
set_option linter.unusedSimpArgs false

def only (F : List Nat) : Nat → Store → Store
  | _, [] => []
  | i, o :: r => (if i ∈ F then o else .dead) :: only F (i + 1) r
def less (F : List Nat) : Nat → Store → Store
  | _, [] => []
  | i, o :: r => (if i ∈ F then .dead else o) :: less F (i + 1) r
theorem only_length (F : List Nat) (s : Store) : ∀ i, (only F i s).length = s.length := by
  induction s with
  | nil => intro i; rfl
  | cons o r ih => intro i; simp [only, ih]
theorem less_length (F : List Nat) (s : Store) : ∀ i, (less F i s).length = s.length := by
  induction s with
  | nil => intro i; rfl
  | cons o r ih => intro i; simp [less, ih]
theorem only_get (F : List Nat) (s : Store) : ∀ (i k : Nat) (o : PObj), (only F i s)[k]? = some o → o ≠ .dead → s[k]? = some o ∧ i + k ∈ F := by
  induction s with
  | nil => intro i k o h; simp [only] at h
  | cons a r ih =>
    intro i k o h hd
    cases k with
    | zero =>
      simp only [only, List.getElem?_cons_zero, Option.some.injEq] at h
      split at h
      · subst h; exact ⟨rfl, by assumption⟩
      · exact absurd h.symm hd
    | succ k =>
      have := ih (i + 1) k o (by simpa [only] using h) hd
      exact ⟨by simpa using this.1, by have h2 := this.2; rw [show i + 1 + k = i + (k + 1) by omega] at h2; exact h2⟩
theorem less_get (F : List Nat) (s : Store) : ∀ (i k : Nat) (o : PObj), (less F i s)[k]? = some o → o ≠ .dead → s[k]? = some o ∧ i + k ∉ F := by
  induction s with
  | nil => intro i k o h; simp [less] at h
  | cons a r ih =>
    intro i k o h hd
    cases k with
    | zero =>
      simp only [less, List.getElem?_cons_zero, Option.some.injEq] at h
      split at h
      · exact absurd h.symm hd
      · subst h; exact ⟨rfl, by assumption⟩
    | succ k =>
      have := ih (i + 1) k o (by simpa [less] using h) hd
      exact ⟨by simpa using this.1, by have h2 := this.2; rw [show i + 1 + k = i + (k + 1) by omega] at h2; exact h2⟩

section
variable {m : Nat} {e : Env} {s : Store}

/-- fewer objects -/
theorem SR.sub {C : Ctx} {pub : PHeap} {σ : Sig} {s t : Store} {w : World} (hs : SR C pub σ s w) (hl : t.length = s.length) (ht : ∀ (k : Nat) (o : PObj), t[k]? = some o → o ≠ .dead → s[k]? = some o) : SR C pub σ t w := by
  have hal : ∀ i l, Alive t σ i l → Alive s σ i l := by
    rintro i l ⟨o, h1, h2, h3, h4⟩
    exact ⟨o, ht i o h1 h2, h2, h3, h4⟩
  exact {
    pubIn := hs.pubIn
    obj := fun i o hi => by
      by_cases hd : o = .dead
      · subst hd; trivial
      · exact hs.obj i o (ht i o hi hd)
    inj := fun i j li lj hi hj => hs.inj i j li lj (hal _ _ hi) (hal _ _ hj)
    sig := fun i hi => hs.sig i (by omega)
    os := hs.os, tape := hs.tape, output := hs.output, size := hs.size
    frame := hs.frame
    own := fun i l hi => hs.own i l (hal _ _ hi)
    ple := hs.ple
    sle := hs.sle }

def FrzEnv (F : List Nat) (n : Nat) (s : Store) (e : Env) : List (Nat × PV) → Prop
  | [] => True
  | (t, v) :: r => (v = e t ∨ v = deref (only F 0 s) n (e t)) ∧ FrzEnv F n s e r

theorem View.freeze (F : List Nat) (n : Nat) (l : List (Nat × PV)) (he : FrzEnv F n s e l) : ViewL m e s l (less F 0 s) := by
  intro C pub σ a w N hC hs her
  have hso : SR C pub σ (only F 0 s) w := hs.sub (only_length _ _ _) fun k o h hd => (only_get F s 0 k o h hd).1
  have hsl : SR C pub σ (less F 0 s) w := hs.sub (less_length _ _ _) fun k o h hd => (less_get F s 0 k o h hd).1
  have hle := opened_le hso
  have hno : ∀ i li, Alive (less F 0 s) σ i li → ¬ dom (only F 0 s) σ li.b := by
    rintro i li ⟨o, h1, h2, h3, h4⟩ ⟨j, lj, ⟨o', g1, g2, g3, g4⟩, hb⟩
    obtain ⟨h5, h6⟩ := less_get F s 0 i o h1 h2
    obtain ⟨g5, g6⟩ := only_get F s 0 j o' g1 g2
    have := hs.inj i j li lj ⟨o, h5, h2, h3, h4⟩ ⟨o', g5, g2, g3, g4⟩ hb.symm
    subst this
    exact h6 g6
  refine ⟨opened pub σ (only F 0 s) w, σ, ?_, her.size, her.defers, fun t => ?_⟩
  · exact {
      pubIn := opened_in hso
      obj := fun i o hi => by
        have h0 := hsl.obj i o hi
        cases o with
        | dead => trivial
        | rows z rs =>
          obtain ⟨li, h1, h2, h3, h4⟩ := h0
          refine ⟨li, h1, h2, h3, fun hn => ?_⟩
          obtain ⟨h5, cs, ty, h6, h7, h8⟩ := h4 hn
          refine ⟨?_, cs, ty, h6, h7, h8.wide, fun r row j v c a b d => (h8.rel r row j v c a b d).mono hle Sig.le.rfl'⟩
          unfold opened
          rw [if_neg (hno i li ⟨_, hi, by simp, h1, hn⟩)]; exact h5
        | iter t p =>
          obtain ⟨li, h1, h2, h3, h4, h5, h6⟩ := h0
          refine ⟨li, h1, ?_, h3, h4, h5, h6⟩
          unfold opened
          rw [if_neg (hno i li ⟨_, hi, by simp, h1, by omega⟩)]; exact h2
        | map es =>
          obtain ⟨li, h1, h2, h3, h4, h5, xs, clock, h6, h7, h8⟩ := h0
          refine ⟨li, h1, ?_, h3, h4, h5, xs, clock, h6, h7, fun j k v e a b => ⟨(h8 j k v e a b).1.mono hle Sig.le.rfl', (h8 j k v e a b).2.mono hle Sig.le.rfl'⟩⟩
          unfold opened
          rw [if_neg (hno i li ⟨_, hi, by simp, h1, by omega⟩)]; exact h2
      inj := hsl.inj
      sig := hsl.sig
      os := hs.os, tape := hs.tape, output := hs.output, size := hs.size
      frame := fun b hb hd => by
        have h1 := hs.frame b hb hd
        refine ⟨h1.1, ?_⟩
        unfold opened
        rw [if_neg, h1.2]
        rintro ⟨i, l, hl, rfl⟩
        rcases hso.own i l hl with h2 | h2
        · exact hd h2
        · omega
      own := hsl.own
      ple := hs.ple.trans hle
      sle := hs.sle }
  · induction l with
    | nil => exact .any
    | cons p r ih =>
      obtain ⟨t', v⟩ := p
      obtain ⟨h1, h2⟩ := he
      unfold envOf
      split
      · rename_i htt
        subst htt
        rcases h1 with rfl | rfl
        · exact (her.rel t).mono hle Sig.le.rfl'
        · exact (deref_rel hso n _ _ (her.rel t)).mono PHeap.le.rfl' (noSig_le σ)
      · exact ih h2
end

/- a weaker look at plain data: nil may be seen as the empty list -/
mutual
inductive Soft : PV → PV → Prop
  | refl {v} : Soft v v
  | nil : Soft (.list []) .nilsl
  | list {xs ys} (h : SoftR xs ys) : Soft (.list xs) (.list ys)
  | iptr {xs ys} (h : SoftL xs ys) : Soft (.iptr xs) (.iptr ys)
  | agg {xs ys} (h : SoftL xs ys) : Soft (.agg xs) (.agg ys)
  | tuple {xs ys} (h : SoftL xs ys) : Soft (.tuple xs) (.tuple ys)
inductive SoftL : List PV → List PV → Prop
  | nil : SoftL [] []
  | cons {x y xs ys} (h : Soft x y) (g : SoftL xs ys) : SoftL (x :: xs) (y :: ys)
inductive SoftR : List (List PV) → List (List PV) → Prop
  | nil : SoftR [] []
  | cons {x y xs ys} (h : SoftL x y) (g : SoftR xs ys) : SoftR (x :: xs) (y :: ys)
end
mutual
theorem Soft.rel {pub : PHeap} : ∀ {v u : PV}, Soft v u → ∀ {σ : Sig} {c : Value}, Rel pub σ u c → Rel pub σ v c
  | _, _, .refl, _, _, h => h
  | _, _, .nil, _, _, h => by cases h; exact .list0 (Nat.zero_le _)
  | _, _, .list (xs := xs) (ys := ys) g, σ, c, h => by
    have hg := g.get (pub := pub)
    cases h with
    | list0 hc => have : xs = [] := List.length_eq_zero_iff.1 hg.1; subst this; exact .list0 hc
    | list hb hlen hcap hw hsz hr =>
      rename_i b o cs ty fr esz cap
      have key : Rel pub σ (.list xs) (.slice (some ⟨b, o, none⟩) xs.length cap) := by
        refine .list (esz := esz) hb (by omega) hcap ?_ (by rw [hg.1]; exact hsz) ?_
        · intro r row hrow
          have hlt := lt_of_getElem? hrow
          have hy : ys[r]? = some (ys[r]'(by omega)) := List.getElem?_eq_getElem _
          rw [(hg.2 r row _ hrow hy).1]; exact hw r _ hy
        · intro r row j v c hrow hj hc
          have hlt := lt_of_getElem? hrow
          have hy : ys[r]? = some (ys[r]'(by omega)) := List.getElem?_eq_getElem _
          have h2 := hg.2 r row _ hrow hy
          have hjl := lt_of_getElem? hj
          have hyj : (ys[r]'(by omega))[j]? = some ((ys[r]'(by omega))[j]'(by omega)) := List.getElem?_eq_getElem _
          exact h2.2 j v _ hj hyj noSig c (hr r _ j _ c hy hyj hc)
      rw [hg.1] at key; exact key
  | _, _, .iptr (xs := xs) (ys := ys) g, σ, c, h => by
    have hg := g.get (pub := pub)
    cases h with
    | iptr hb hsz hr =>
      refine .iptr hb (by omega) fun j v c hj hc => ?_
      have hjl := lt_of_getElem? hj
      have hyj : ys[j]? = some (ys[j]'(by omega)) := List.getElem?_eq_getElem _
      exact hg.2 j v _ hj hyj noSig c (hr j _ c hyj hc)
  | _, _, .agg (xs := xs) (ys := ys) g, σ, c, h => by
    have hg := g.get (pub := pub)
    cases h with
    | agg hsz hr =>
      refine .agg (by omega) fun j v c hj hc => ?_
      have hjl := lt_of_getElem? hj
      have hyj : ys[j]? = some (ys[j]'(by omega)) := List.getElem?_eq_getElem _
      exact hg.2 j v _ hj hyj σ c (hr j _ c hyj hc)
  | _, _, .tuple (xs := xs) (ys := ys) g, σ, c, h => by
    have hg := g.get (pub := pub)
    cases h with
    | tuple hsz hr =>
      refine .tuple (by omega) fun j v c hj hc => ?_
      have hjl := lt_of_getElem? hj
      have hyj : ys[j]? = some (ys[j]'(by omega)) := List.getElem?_eq_getElem _
      exact hg.2 j v _ hj hyj σ c (hr j _ c hyj hc)
theorem SoftL.get {pub : PHeap} : ∀ {xs ys : List PV}, SoftL xs ys → xs.length = ys.length ∧ ∀ (j : Nat) (v u : PV), xs[j]? = some v → ys[j]? = some u → ∀ (σ : Sig) (c : Value), Rel pub σ u c → Rel pub σ v c
  | _, _, .nil => ⟨rfl, fun j v u h => by simp at h⟩
  | _, _, .cons h g => ⟨by simp [(g.get (pub := pub)).1], fun j v u hv hu σ c hr => by
      cases j with
      | zero => simp at hv hu; subst hv hu; exact h.rel hr
      | succ j => exact (g.get (pub := pub)).2 j v u (by simpa using hv) (by simpa using hu) σ c hr⟩
theorem SoftR.get {pub : PHeap} : ∀ {xs ys : List (List PV)}, SoftR xs ys → xs.length = ys.length ∧ ∀ (r : Nat) (row row' : List PV), xs[r]? = some row → ys[r]? = some row' → row.length = row'.length ∧ ∀ (j : Nat) (v u : PV), row[j]? = some v → row'[j]? = some u → ∀ (σ : Sig) (c : Value), Rel pub σ u c → Rel pub σ v c
  | _, _, .nil => ⟨rfl, fun j v u h => by simp at h⟩
  | _, _, .cons h g => ⟨by simp [(g.get (pub := pub)).1], fun r row row' hv hu => by
      cases r with
      | zero => simp at hv hu; subst hv hu; exact h.get
      | succ r => exact (g.get (pub := pub)).2 r row row' (by simpa using hv) (by simpa using hu)⟩
end

section
variable {P : Program} {m : Nat} {e : Env} {s : Store}
end
end Go.Pv
