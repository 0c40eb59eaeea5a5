/-
  Orders and lattices in plain Lean: the kind of a lattice is that of the lattice turned round.
-/
import Derived.Test.YthnobaacfjihcaaPvQt
namespace Go.Proofs.Ythnobaacfjihcaa
set_option linter.unusedVariables false

def bestI (n : Nat) (fine : Nat → Bool) (first : Nat → Nat → Bool) : Int :=
  match (List.range n).find? (fun c => fine c && (List.range n).all fun d => !fine d || first c d) with
  | some c => c
  | none => -1
def joinI (n : Nat) (t : Nat → Nat → Bool) (a b : Nat) : Int := bestI n (fun c => t a c && t b c) (fun c d => t c d)
def meetI (n : Nat) (t : Nat → Nat → Bool) (a b : Nat) : Int := bestI n (fun c => t c a && t c b) (fun c d => t d c)
def jn (n : Nat) (t : Nat → Nat → Bool) (a b : Nat) : Nat := (joinI n t a b).toNat
def mt (n : Nat) (t : Nat → Nat → Bool) (a b : Nat) : Nat := (meetI n t a b).toNat
def flipT (t : Nat → Nat → Bool) (a b : Nat) : Bool := t b a
def isLat (n : Nat) (t : Nat → Nat → Bool) : Bool := (List.range n).all fun a => !((List.range n).any fun b => decide (joinI n t a b = -1)) && !((List.range n).any fun b => decide (meetI n t a b = -1))
def each3 (n : Nat) (is : Nat → Nat → Nat → Bool) : Bool := (List.range n).all fun a => (List.range n).all fun b => (List.range n).all fun c => is a b c
def modL (n : Nat) (t : Nat → Nat → Bool) : Bool := each3 n fun a b c => !t a c || decide (jn n t a (mt n t b c) = mt n t (jn n t a b) c)
def distL (n : Nat) (t : Nat → Nat → Bool) : Bool := each3 n fun a b c => decide (mt n t a (jn n t b c) = jn n t (mt n t a b) (mt n t a c))
def botL (n : Nat) (t : Nat → Nat → Bool) : Nat := (List.range n).foldl (mt n t) 0
def topL (n : Nat) (t : Nat → Nat → Bool) : Nat := (List.range n).foldl (jn n t) 0
def compL (n : Nat) (t : Nat → Nat → Bool) : Bool := (List.range n).all fun a => (List.range n).any fun b => decide (jn n t a b = topL n t) && decide (mt n t a b = botL n t)
def kindL (n : Nat) (t : Nat → Nat → Bool) : List Bool := if isLat n t then [true, modL n t, distL n t, distL n t && compL n t] else [false, false, false, false]

/-- an order of the numbers below 'n' -/
structure PO (n : Nat) (t : Nat → Nat → Bool) : Prop where
  refl : ∀ i, i < n → t i i = true
  trans : ∀ i j k, i < n → j < n → k < n → t i j = true → t j k = true → t i k = true
  anti : ∀ i j, i < n → j < n → t i j = true → t j i = true → i = j

variable {n : Nat} {t : Nat → Nat → Bool}

theorem PO.flip (h : PO n t) : PO n (flipT t) := ⟨h.refl, fun i j k hi hj hk h1 h2 => h.trans k j i hk hj hi h2 h1, fun i j hi hj h1 h2 => h.anti i j hi hj h2 h1⟩

theorem best_spec (n : Nat) (fine : Nat → Bool) (first : Nat → Nat → Bool) :
    (bestI n fine first = -1 ∧ ¬ ∃ c, c < n ∧ fine c = true ∧ ∀ d, d < n → fine d = true → first c d = true) ∨
    (∃ c, c < n ∧ bestI n fine first = c ∧ fine c = true ∧ ∀ d, d < n → fine d = true → first c d = true) := by
  unfold bestI
  have key : ∀ c, (fine c && (List.range n).all fun d => !fine d || first c d) = true ↔ fine c = true ∧ ∀ d, d < n → fine d = true → first c d = true := by
    intro c
    rw [Bool.and_eq_true, List.all_eq_true]
    refine and_congr_right fun _ => ⟨fun h d hd hf => ?_, fun h d hd => ?_⟩
    · have := h d (List.mem_range.2 hd); simpa [hf] using this
    · cases hf : fine d
      · rfl
      · simpa [hf] using h d (List.mem_range.1 hd) hf
  cases hx : (List.range n).find? (fun c => fine c && (List.range n).all fun d => !fine d || first c d) with
  | none =>
    refine .inl ⟨rfl, ?_⟩
    rintro ⟨c, hc, h1⟩
    rw [List.find?_eq_none] at hx
    exact hx c (List.mem_range.2 hc) ((key c).2 h1)
  | some c =>
    exact .inr ⟨c, List.mem_range.1 (List.mem_of_find?_eq_some hx), rfl, (key c).1 (by have := List.find?_some (p := fun c => fine c && (List.range n).all fun d => !fine d || first c d) hx; exact this)⟩

theorem isLat_iff : isLat n t = true ↔ ∀ a b, a < n → b < n → joinI n t a b ≠ -1 ∧ meetI n t a b ≠ -1 := by
  unfold isLat
  rw [List.all_eq_true]
  constructor
  · intro h a b ha hb
    have := h a (List.mem_range.2 ha)
    simp only [Bool.and_eq_true, Bool.not_eq_true', List.any_eq_false, List.mem_range, decide_eq_true_eq] at this
    exact ⟨this.1 b hb, this.2 b hb⟩
  · intro h a ha
    simp only [Bool.and_eq_true, Bool.not_eq_true', List.any_eq_false, List.mem_range, decide_eq_true_eq]
    exact ⟨fun b hb => (h a b (List.mem_range.1 ha) hb).1, fun b hb => (h a b (List.mem_range.1 ha) hb).2⟩

/-- what a join is -/
theorem join_spec (hl : isLat n t = true) {a b : Nat} (ha : a < n) (hb : b < n) : jn n t a b < n ∧ joinI n t a b = jn n t a b ∧ t a (jn n t a b) = true ∧ t b (jn n t a b) = true ∧ ∀ d, d < n → t a d = true → t b d = true → t (jn n t a b) d = true := by
  have hne := (isLat_iff.1 hl a b ha hb).1
  rcases best_spec n (fun c => t a c && t b c) (fun c d => t c d) with ⟨h, _⟩ | ⟨c, hc, h, h1, h2⟩
  · exact absurd h hne
  · have hj : jn n t a b = c := by unfold jn joinI; rw [h]; rfl
    rw [hj]
    rw [Bool.and_eq_true] at h1
    exact ⟨hc, h, h1.1, h1.2, fun d hd h3 h4 => h2 d hd (by simp [h3, h4])⟩
theorem isLat_flip : isLat n (flipT t) = isLat n t := by
  rw [Bool.eq_iff_iff, isLat_iff, isLat_iff]
  exact ⟨fun h a b ha hb => (h a b ha hb).symm, fun h a b ha hb => (h a b ha hb).symm⟩
theorem meet_spec (hl : isLat n t = true) {a b : Nat} (ha : a < n) (hb : b < n) : mt n t a b < n ∧ meetI n t a b = mt n t a b ∧ t (mt n t a b) a = true ∧ t (mt n t a b) b = true ∧ ∀ d, d < n → t d a = true → t d b = true → t d (mt n t a b) = true :=
  join_spec (t := flipT t) (by rw [isLat_flip]; exact hl) ha hb

/-- a lattice -/
structure La (n : Nat) (t : Nat → Nat → Bool) : Prop extends PO n t where
  lat : isLat n t = true
variable (h : La n t)
include h
theorem La.flip : La n (flipT t) := ⟨h.toPO.flip, by rw [isLat_flip]; exact h.lat⟩
theorem La.jlt {a b : Nat} (ha : a < n) (hb : b < n) : jn n t a b < n := (join_spec h.lat ha hb).1
theorem La.mlt {a b : Nat} (ha : a < n) (hb : b < n) : mt n t a b < n := (meet_spec h.lat ha hb).1
theorem La.j1 {a b : Nat} (ha : a < n) (hb : b < n) : t a (jn n t a b) = true := (join_spec h.lat ha hb).2.2.1
theorem La.j2 {a b : Nat} (ha : a < n) (hb : b < n) : t b (jn n t a b) = true := (join_spec h.lat ha hb).2.2.2.1
theorem La.jl {a b d : Nat} (ha : a < n) (hb : b < n) (hd : d < n) (h1 : t a d = true) (h2 : t b d = true) : t (jn n t a b) d = true := (join_spec h.lat ha hb).2.2.2.2 d hd h1 h2
theorem La.m1 {a b : Nat} (ha : a < n) (hb : b < n) : t (mt n t a b) a = true := (meet_spec h.lat ha hb).2.2.1
theorem La.m2 {a b : Nat} (ha : a < n) (hb : b < n) : t (mt n t a b) b = true := (meet_spec h.lat ha hb).2.2.2.1
theorem La.ml {a b d : Nat} (ha : a < n) (hb : b < n) (hd : d < n) (h1 : t d a = true) (h2 : t d b = true) : t d (mt n t a b) = true := (meet_spec h.lat ha hb).2.2.2.2 d hd h1 h2
theorem La.jcomm {a b : Nat} (ha : a < n) (hb : b < n) : jn n t a b = jn n t b a :=
  h.anti _ _ (h.jlt ha hb) (h.jlt hb ha) (h.jl ha hb (h.jlt hb ha) (h.j2 hb ha) (h.j1 hb ha)) (h.jl hb ha (h.jlt ha hb) (h.j2 ha hb) (h.j1 ha hb))
theorem La.mcomm {a b : Nat} (ha : a < n) (hb : b < n) : mt n t a b = mt n t b a := h.flip.jcomm ha hb
/-- they take in each other -/
theorem La.mj {a b : Nat} (ha : a < n) (hb : b < n) : mt n t a (jn n t a b) = a :=
  h.anti _ _ (h.mlt ha (h.jlt ha hb)) ha (h.m1 ha (h.jlt ha hb)) (h.ml ha (h.jlt ha hb) ha (h.refl a ha) (h.j1 ha hb))
theorem La.jm {a b : Nat} (ha : a < n) (hb : b < n) : jn n t a (mt n t a b) = a := h.flip.mj ha hb

def Dist (n : Nat) (t : Nat → Nat → Bool) : Prop := ∀ a b c, a < n → b < n → c < n → mt n t a (jn n t b c) = jn n t (mt n t a b) (mt n t a c)
omit h in
theorem each3_iff {is : Nat → Nat → Nat → Bool} : each3 n is = true ↔ ∀ a b c, a < n → b < n → c < n → is a b c = true := by
  simp only [each3, List.all_eq_true, List.mem_range]
  exact ⟨fun h a b c ha hb hc => h a ha b hb c hc, fun h a ha b hb c hc => h a b c ha hb hc⟩
omit h in
theorem dist_iff : distL n t = true ↔ Dist n t := by
  unfold distL; rw [each3_iff]; simp only [decide_eq_true_eq, Dist]
theorem La.dual (hd : Dist n t) : Dist n (flipT t) := by
  intro a b c ha hb hc
  change jn n t a (mt n t b c) = mt n t (jn n t a b) (jn n t a c)
  have hab := h.jlt ha hb
  have hac := h.jlt ha hc
  have hbc := h.mlt hb hc
  have hr := h.jlt ha hbc
  refine h.anti _ _ hr (h.mlt hab hac) (h.jl ha hbc (h.mlt hab hac) (h.ml hab hac ha (h.j1 ha hb) (h.j1 ha hc))
    (h.ml hab hac hbc (h.trans _ _ _ hbc hb hab (h.m1 hb hc) (h.j2 ha hb)) (h.trans _ _ _ hbc hc hac (h.m2 hb hc) (h.j2 ha hc)))) ?_
  rw [hd _ _ _ hab ha hc, h.mcomm hab hc, hd _ _ _ hc ha hb]
  have x1 := h.mlt hab ha
  have x2 := h.mlt hc ha
  have x3 := h.mlt hc hb
  refine h.jl x1 (h.jlt x2 x3) hr (h.trans _ _ _ x1 ha hr (h.m2 hab ha) (h.j1 ha hbc)) (h.jl x2 x3 hr (h.trans _ _ _ x2 ha hr (h.m2 hc ha) (h.j1 ha hbc)) ?_)
  refine h.trans _ _ _ x3 hbc hr (h.ml hb hc x3 (h.m2 hc hb) (h.m1 hc hb)) (h.j2 ha hbc)
theorem dist_flip : distL n (flipT t) = distL n t := by
  rw [Bool.eq_iff_iff, dist_iff, dist_iff]
  exact ⟨fun hd => h.flip.dual hd, fun hd => h.dual hd⟩
def Modu (n : Nat) (t : Nat → Nat → Bool) : Prop := ∀ a b c, a < n → b < n → c < n → t a c = true → jn n t a (mt n t b c) = mt n t (jn n t a b) c
omit h in
theorem mod_iff : modL n t = true ↔ Modu n t := by
  unfold modL; rw [each3_iff]
  refine ⟨fun h a b c ha hb hc hac => ?_, fun h a b c ha hb hc => ?_⟩
  · simpa [hac] using h a b c ha hb hc
  · cases hac : t a c
    · rfl
    · simpa using h a b c ha hb hc hac
theorem La.modual (hd : Modu n t) : Modu n (flipT t) := by
  intro a b c ha hb hc hac
  change mt n t a (jn n t b c) = jn n t (mt n t a b) c
  have := hd c b a hc hb ha hac
  rw [h.mcomm ha (h.jlt hb hc), h.jcomm hb hc, ← this, h.mcomm hb ha, h.jcomm hc (h.mlt ha hb)]
theorem mod_flip : modL n (flipT t) = modL n t := by
  rw [Bool.eq_iff_iff, mod_iff, mod_iff]
  exact ⟨fun hd => h.flip.modual hd, fun hd => h.modual hd⟩
omit h in
theorem comp_flip : compL n (flipT t) = compL n t := by
  unfold compL
  congr 1; funext a; congr 1; funext b
  exact Bool.and_comm _ _
omit h in
/-- THE DUALITY OF LATTICES: the kind stays -/
theorem kind_flip (h : PO n t) : kindL n (flipT t) = kindL n t := by
  unfold kindL
  rw [isLat_flip]
  cases hl : isLat n t
  · rfl
  · have hL : La n t := ⟨h, hl⟩
    simp only [if_true, mod_flip hL, dist_flip hL, comp_flip]
end Go.Proofs.Ythnobaacfjihcaa
