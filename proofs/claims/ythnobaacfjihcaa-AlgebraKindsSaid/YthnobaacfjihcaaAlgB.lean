/-
  Orders and lattices in plain Lean: the joins of a lattice; a distributive lattice is that of the sets of its joins that are closed downwards.
-/
import Derived.Test.YthnobaacfjihcaaAlgP
import Derived.Test.YthnobaacfjihcaaQAd
namespace Go.Proofs.Ythnobaacfjihcaa
open Go Go.Pv
set_option linter.unusedVariables false
set_option linter.unusedSectionVars false

/-- the join of all that is below a thing -/
def belowS (n : Nat) (t : Nat → Nat → Bool) (x b y : Nat) : Nat := if y ≠ x ∧ t y x = true then jn n t b y else b
def belowL (n : Nat) (t : Nat → Nat → Bool) (x : Nat) : Nat := (List.range n).foldl (belowS n t x) (botL n t)
def joinsL (n : Nat) (t : Nat → Nat → Bool) (k : Nat) : List Nat := (List.range k).filter fun x => !decide (belowL n t x = x)

/-! sets of numbers, told by bits -/
def codeOf (p : Nat → Bool) : Nat → Nat
  | 0 => 0
  | m + 1 => if p m = true then 2 ^ m + codeOf p m else codeOf p m
theorem code_bit (p : Nat → Bool) : ∀ m, codeOf p m < 2 ^ m ∧ ∀ i, (codeOf p m).testBit i = (decide (i < m) && p i)
  | 0 => ⟨by simp [codeOf], fun i => by simp [codeOf]⟩
  | m + 1 => by
    obtain ⟨h1, h2⟩ := code_bit p m
    have hp : 2 ^ (m + 1) = 2 ^ m + 2 ^ m := by rw [Nat.pow_succ]; omega
    unfold codeOf
    split
    · rename_i h
      refine ⟨by omega, fun i => ?_⟩
      rcases Nat.lt_trichotomy i m with hi | hi | hi
      · rw [Nat.testBit_two_pow_add_gt hi, h2 i]; simp [hi, show i < m + 1 by omega]
      · subst hi; rw [Nat.testBit_two_pow_add_eq, h2 i]; simp [h]
      · rw [Nat.testBit_lt_two_pow (Nat.lt_of_lt_of_le (show 2 ^ m + codeOf p m < 2 ^ (m + 1) by omega) (Nat.pow_le_pow_right (by omega) hi))]
        simp [show ¬ i < m + 1 by omega]
    · rename_i h
      refine ⟨by omega, fun i => ?_⟩
      rw [h2 i]
      rcases Nat.lt_trichotomy i m with hi | hi | hi
      · simp [hi, show i < m + 1 by omega]
      · subst hi; simp [h]
      · simp [show ¬ i < m by omega, show ¬ i < m + 1 by omega]
theorem bits_eq {n x y : Nat} (hx : x < 2 ^ n) (hy : y < 2 ^ n) (h : ∀ i, i < n → x.testBit i = y.testBit i) : x = y := by
  refine Nat.eq_of_testBit_eq fun i => ?_
  by_cases hi : i < n
  · exact h i hi
  · have hp : 2 ^ n ≤ 2 ^ i := Nat.pow_le_pow_right (by omega) (by omega)
    rw [Nat.testBit_lt_two_pow (Nat.lt_of_lt_of_le hx hp), Nat.testBit_lt_two_pow (Nat.lt_of_lt_of_le hy hp)]
theorem nd_le : ∀ {l l' : List Nat}, l.Nodup → (∀ x ∈ l, x ∈ l') → l.length ≤ l'.length
  | [], _, _, _ => Nat.zero_le _
  | a :: r, l', h, g => by
    rw [List.nodup_cons] at h
    have ha := g a List.mem_cons_self
    have := nd_le (l := r) (l' := l'.erase a) h.2 fun x hx => (List.mem_erase_of_ne (fun (e : x = a) => h.1 (by rw [← e]; exact hx))).2 (g x (List.mem_cons_of_mem _ hx))
    rw [List.length_erase_of_mem ha] at this
    have := List.length_pos_of_mem ha
    simp only [List.length_cons]; omega
theorem nd_filter {p : Nat → Bool} {l : List Nat} (h : l.Nodup) : (l.filter p).Nodup := List.Pairwise.filter p h
theorem nd_map {f : Nat → Nat} : ∀ {l : List Nat}, l.Nodup → (∀ a ∈ l, ∀ b ∈ l, f a = f b → a = b) → (l.map f).Nodup
  | [], _, _ => List.nodup_nil
  | a :: r, h, g => by
    rw [List.nodup_cons] at h
    rw [List.map_cons, List.nodup_cons]
    refine ⟨fun hm => ?_, nd_map h.2 fun x hx y hy => g x (List.mem_cons_of_mem _ hx) y (List.mem_cons_of_mem _ hy)⟩
    obtain ⟨b, hb, e⟩ := List.mem_map.1 hm
    have e2 : b = a := g b (List.mem_cons_of_mem _ hb) a List.mem_cons_self e
    exact h.1 (e2 ▸ hb)
/-- as many as there are numbers below n -/
theorem len_bij {l : List Nat} {n : Nat} (f : Nat → Nat) (hnd : l.Nodup) (hinj : ∀ a b, a < n → b < n → f a = f b → a = b) (hmem : ∀ x, x ∈ l ↔ ∃ a, a < n ∧ f a = x) : l.length = n := by
  have h1 := nd_le (l := l) (l' := (List.range n).map f) hnd fun x hx => by
    obtain ⟨a, ha, e⟩ := (hmem x).1 hx
    exact List.mem_map.2 ⟨a, List.mem_range.2 ha, e⟩
  have h2 := nd_le (l := (List.range n).map f) (l' := l) (nd_map List.nodup_range fun a ha b hb => hinj a b (List.mem_range.1 ha) (List.mem_range.1 hb)) fun x hx => by
    obtain ⟨a, ha, e⟩ := List.mem_map.1 hx
    exact (hmem x).2 ⟨a, List.mem_range.1 ha, e⟩
  simp only [List.length_map, List.length_range] at h1 h2
  omega
theorem countP_lt {p q : Nat → Bool} : ∀ {l : List Nat}, (∀ x ∈ l, p x = true → q x = true) → ∀ {i : Nat}, i ∈ l → q i = true → p i = false → l.countP p < l.countP q
  | [], _, _, h, _, _ => by cases h
  | a :: r, h, i, hi, h1, h2 => by
    have hle : r.countP p ≤ r.countP q := List.countP_mono_left fun x hx => h x (List.mem_cons_of_mem _ hx)
    rw [List.countP_cons, List.countP_cons]
    have ha := h a List.mem_cons_self
    rcases List.mem_cons.1 hi with e | hi
    · subst e; rw [if_pos h1, if_neg (by rw [h2]; decide)]; omega
    · have := countP_lt (fun x hx => h x (List.mem_cons_of_mem _ hx)) hi h1 h2
      by_cases hp : p a = true
      · rw [if_pos hp, if_pos (ha hp)]; omega
      · rw [if_neg hp]; omega

section
variable {n : Nat} {t : Nat → Nat → Bool} (h : La n t) (hn : 0 < n)
include h hn
theorem La.bot : botL n t < n ∧ ∀ y, y < n → t (botL n t) y = true := h.flip.top hn
theorem La.below_k {x : Nat} (hx : x < n) : ∀ k, k ≤ n → (List.range k).foldl (belowS n t x) (botL n t) < n ∧ t ((List.range k).foldl (belowS n t x) (botL n t)) x = true ∧
    (∀ y, y < k → y ≠ x → t y x = true → t y ((List.range k).foldl (belowS n t x) (botL n t)) = true) ∧
    (∀ d, d < n → (∀ y, y < k → y ≠ x → t y x = true → t y d = true) → t ((List.range k).foldl (belowS n t x) (botL n t)) d = true) := by
  intro k
  induction k with
  | zero => intro _; exact ⟨(h.bot hn).1, (h.bot hn).2 x hx, fun y hy => by omega, fun d hd _ => (h.bot hn).2 d hd⟩
  | succ k ih =>
    intro hk
    obtain ⟨h1, h2, h3, h4⟩ := ih (by omega)
    rw [List.range_succ, List.foldl_append]
    simp only [List.foldl_cons, List.foldl_nil]
    generalize (List.range k).foldl (belowS n t x) (botL n t) = b at *
    have hkn : k < n := by omega
    unfold belowS
    split
    · rename_i hc
      have hj := h.jlt h1 hkn
      refine ⟨hj, h.jl h1 hkn hx h2 hc.2, fun y hy hne hyx => ?_, fun d hd hall => h.jl h1 hkn hd (h4 d hd fun y hy => hall y (by omega)) (hall k (by omega) hc.1 hc.2)⟩
      by_cases e : y = k
      · subst e; exact h.j2 h1 hkn
      · exact h.trans _ _ _ (by omega) h1 hj (h3 y (by omega) hne hyx) (h.j1 h1 hkn)
    · rename_i hc
      refine ⟨h1, h2, fun y hy hne hyx => ?_, fun d hd hall => h4 d hd fun y hy => hall y (by omega)⟩
      by_cases e : y = k
      · subst e; exact absurd ⟨hne, hyx⟩ hc
      · exact h3 y (by omega) hne hyx
theorem La.below {x : Nat} (hx : x < n) : belowL n t x < n ∧ t (belowL n t x) x = true ∧ (∀ y, y < n → y ≠ x → t y x = true → t y (belowL n t x) = true) ∧
    (∀ d, d < n → (∀ y, y < n → y ≠ x → t y x = true → t y d = true) → t (belowL n t x) d = true) := h.below_k hn hx n (Nat.le_refl _)
omit h hn in
theorem joins_mem {x k : Nat} : x ∈ joinsL n t k ↔ x < k ∧ belowL n t x ≠ x := by simp [joinsL, List.mem_filter]
/-- the things that are no join of what is below them, are prime in a distributive lattice -/
theorem La.prime (hd : Dist n t) {j a b : Nat} (hj : j < n) (hjj : belowL n t j ≠ j) (ha : a < n) (hb : b < n) (hjab : t j (jn n t a b) = true) : t j a = true ∨ t j b = true := by
  obtain ⟨b1, b2, b3, b4⟩ := h.below hn hj
  have hab := h.jlt ha hb
  have e : mt n t j (jn n t a b) = j := h.anti _ _ (h.mlt hj hab) hj (h.m1 hj hab) (h.ml hj hab hj (h.refl j hj) hjab)
  rw [hd _ _ _ hj ha hb] at e
  have la := h.mlt hj ha
  have lb := h.mlt hj hb
  by_cases ea : mt n t j a = j
  · exact .inl (by have := h.m2 hj ha; rwa [ea] at this)
  · by_cases eb : mt n t j b = j
    · exact .inr (by have := h.m2 hj hb; rwa [eb] at this)
    · have := h.jl la lb b1 (b3 _ la ea (h.m1 hj ha)) (b3 _ lb eb (h.m1 hj hb))
      rw [e] at this
      exact absurd (h.anti _ _ b1 hj b2 this) hjj
theorem La.le_of {y : Nat} (hy : y < n) : ∀ (k x : Nat), x < n → (List.range n).countP (fun z => t z x) ≤ k → (∀ j, j < n → belowL n t j ≠ j → t j x = true → t j y = true) → t x y = true := by
  intro k
  induction k with
  | zero =>
    intro x hx hk
    have : 0 < (List.range n).countP (fun z => t z x) := List.countP_pos_iff.2 ⟨x, List.mem_range.2 hx, h.refl x hx⟩
    omega
  | succ k ih =>
    intro x hx hk hall
    by_cases e : belowL n t x = x
    · obtain ⟨b1, b2, b3, b4⟩ := h.below hn hx
      have := b4 y hy fun z hz hne hzx => by
        refine ih z hz ?_ fun j hj hjj hjz => hall j hj hjj (h.trans _ _ _ hj hz hx hjz hzx)
        have := countP_lt (p := fun w => t w z) (q := fun w => t w x) (l := List.range n) (fun w hw hwz => h.trans _ _ _ (List.mem_range.1 hw) hz hx hwz hzx) (List.mem_range.2 hx) (h.refl x hx) (by
          cases hxz : t x z
          · rfl
          · exact absurd (h.anti _ _ hz hx hzx hxz) hne)
        omega
      rwa [e] at this
    · exact hall x hx e (h.refl x hx)
/-- what is at most what: told by the joins -/
theorem La.le_iff {x y : Nat} (hx : x < n) (hy : y < n) : t x y = true ↔ ∀ j, j < n → belowL n t j ≠ j → t j x = true → t j y = true :=
  ⟨fun hxy j hj _ hjx => h.trans _ _ _ hj hx hy hjx hxy, fun hall => h.le_of hn hy _ x hx (Nat.le_refl _) hall⟩
end

/-! the sets of joins -/
section
variable {n : Nat} {t : Nat → Nat → Bool}
/-- the joins' order, by their numbers in the list -/
def jOrd (l : List Nat) (t : Nat → Nat → Bool) (i j : Nat) : Bool := t (l.getD i 0) (l.getD j 0)
def jCode (l : List Nat) (t : Nat → Nat → Bool) (x : Nat) : Nat := codeOf (fun i => t (l.getD i 0) x) l.length
theorem getD_mem {l : List Nat} {i : Nat} (hi : i < l.length) : l.getD i 0 ∈ l := by
  rw [List.getD_eq_getElem?_getD, List.getElem?_eq_getElem hi]; exact List.getElem_mem hi
theorem mem_getD {l : List Nat} {x : Nat} (h : x ∈ l) : ∃ i, i < l.length ∧ l.getD i 0 = x := by
  obtain ⟨i, hi, e⟩ := List.getElem_of_mem h
  exact ⟨i, hi, by rw [List.getD_eq_getElem?_getD, List.getElem?_eq_getElem hi]; exact e⟩
theorem getD_inj {l : List Nat} (h : l.Nodup) {i j : Nat} (hi : i < l.length) (hj : j < l.length) (e : l.getD i 0 = l.getD j 0) : i = j := by
  simp only [List.getD_eq_getElem?_getD, List.getElem?_eq_getElem hi, List.getElem?_eq_getElem hj, Option.getD_some] at e
  exact (List.getElem_inj h).1 e
variable (h : La n t) (hn : 0 < n)
include h hn
omit h hn in
theorem joins_nodup : (joinsL n t n).Nodup := nd_filter List.nodup_range
theorem La.jord_po : PO (joinsL n t n).length (jOrd (joinsL n t n) t) := by
  have hl := fun i (hi : i < (joinsL n t n).length) => (joins_mem.1 (getD_mem hi)).1
  exact ⟨fun i hi => h.refl _ (hl i hi), fun i j k hi hj hk h1 h2 => h.trans _ _ _ (hl i hi) (hl j hj) (hl k hk) h1 h2,
    fun i j hi hj h1 h2 => getD_inj joins_nodup hi hj (h.anti _ _ (hl i hi) (hl j hj) h1 h2)⟩
omit h hn in
theorem isDown_iff {m : Nat} {g : Nat → Nat → Bool} {k : Nat} : isDown m g k = true ↔ ∀ i j, i < m → j < m → k.testBit i = true → g j i = true → k.testBit j = true := by
  simp only [isDown, List.all_eq_true, List.mem_range, Bool.or_eq_true, Bool.not_eq_true']
  constructor
  · intro h i j hi hj h1 h2
    rcases h i hi with g | g
    · rw [h1] at g; cases g
    · rcases g j hj with g | g
      · rw [h2] at g; cases g
      · exact g
  · intro h i hi
    cases hk : k.testBit i
    · exact .inl rfl
    · refine .inr fun j hj => ?_
      cases hg : g j i
      · exact .inl rfl
      · exact .inr (h i j hi hj hk hg)
theorem La.code_down {x : Nat} (hx : x < n) : isDown (joinsL n t n).length (jOrd (joinsL n t n) t) (jCode (joinsL n t n) t x) = true := by
  rw [isDown_iff]
  intro i j hi hj h1 h2
  unfold jCode at h1 ⊢
  rw [(code_bit _ _).2] at h1 ⊢
  simp only [hi, hj, decide_true, Bool.true_and] at h1 ⊢
  exact h.trans _ _ _ (joins_mem.1 (getD_mem hj)).1 (joins_mem.1 (getD_mem hi)).1 hx h2 h1
theorem La.code_le {x y : Nat} (hx : x < n) (hy : y < n) (hc : ∀ i, i < (joinsL n t n).length → (jCode (joinsL n t n) t x).testBit i = true → (jCode (joinsL n t n) t y).testBit i = true) : t x y = true := by
  rw [h.le_iff hn hx hy]
  intro j hj hjj hjx
  obtain ⟨i, hi, e⟩ := mem_getD (joins_mem.2 ⟨hj, hjj⟩)
  have := hc i hi
  unfold jCode at this
  rw [(code_bit _ _).2, (code_bit _ _).2] at this
  simp only [hi, decide_true, Bool.true_and, e] at this
  exact this hjx
theorem La.code_inj {x y : Nat} (hx : x < n) (hy : y < n) (e : jCode (joinsL n t n) t x = jCode (joinsL n t n) t y) : x = y :=
  h.anti _ _ hx hy (h.code_le hn hx hy fun i _ hi => e ▸ hi) (h.code_le hn hy hx fun i _ hi => e ▸ hi)
/-- the join of a set of joins -/
theorem La.code_onto (hd : Dist n t) {k : Nat} (hk : k < 2 ^ (joinsL n t n).length) (hdn : isDown (joinsL n t n).length (jOrd (joinsL n t n) t) k = true) : ∃ x, x < n ∧ jCode (joinsL n t n) t x = k := by
  rw [isDown_iff] at hdn
  have hl := fun i (hi : i < (joinsL n t n).length) => joins_mem.1 (getD_mem hi)
  -- the join of the first of them
  have key : ∀ m, m ≤ (joinsL n t n).length → ∃ x, x < n ∧ (∀ i, i < m → k.testBit i = true → t ((joinsL n t n).getD i 0) x = true) ∧
      (∀ j, j < n → belowL n t j ≠ j → t j x = true → ∃ i, i < m ∧ k.testBit i = true ∧ t j ((joinsL n t n).getD i 0) = true) := by
    intro m
    induction m with
    | zero =>
      intro _
      refine ⟨botL n t, (h.bot hn).1, fun i hi => by omega, fun j hj hjj hjb => ?_⟩
      exfalso
      obtain ⟨b1, b2, b3, b4⟩ := h.below hn hj
      have e : j = botL n t := h.anti _ _ hj (h.bot hn).1 hjb ((h.bot hn).2 j hj)
      exact hjj (h.anti _ _ b1 hj b2 (by have := (h.bot hn).2 _ b1; rwa [← e] at this))
    | succ m ih =>
      intro hm
      obtain ⟨x, hx, h1, h2⟩ := ih (by omega)
      obtain ⟨l1, l2⟩ := hl m (by omega)
      by_cases hb : k.testBit m = true
      · refine ⟨jn n t x ((joinsL n t n).getD m 0), h.jlt hx l1, fun i hi hki => ?_, fun j hj hjj hjx => ?_⟩
        · by_cases e : i = m
          · subst e; exact h.j2 hx l1
          · exact h.trans _ _ _ (hl i (by omega)).1 hx (h.jlt hx l1) (h1 i (by omega) hki) (h.j1 hx l1)
        · rcases h.prime hn hd hj hjj hx l1 hjx with g | g
          · obtain ⟨i, hi, g1, g2⟩ := h2 j hj hjj g
            exact ⟨i, by omega, g1, g2⟩
          · exact ⟨m, by omega, hb, g⟩
      · refine ⟨x, hx, fun i hi hki => ?_, fun j hj hjj hjx => ?_⟩
        · by_cases e : i = m
          · subst e; exact absurd hki hb
          · exact h1 i (by omega) hki
        · obtain ⟨i, hi, g1, g2⟩ := h2 j hj hjj hjx
          exact ⟨i, by omega, g1, g2⟩
  obtain ⟨x, hx, h1, h2⟩ := key _ (Nat.le_refl _)
  refine ⟨x, hx, bits_eq (code_bit _ _).1 hk fun i hi => ?_⟩
  unfold jCode
  rw [(code_bit _ _).2]
  simp only [hi, decide_true, Bool.true_and]
  rw [Bool.eq_iff_iff]
  constructor
  · intro g
    obtain ⟨i', hi', g1, g2⟩ := h2 _ (hl i hi).1 (hl i hi).2 g
    exact hdn i' i hi' hi g1 g2
  · exact h1 i hi
/-- as many sets as things -/
theorem La.downs_len (hd : Dist n t) : ((List.range (2 ^ (joinsL n t n).length)).filter (isDown (joinsL n t n).length (jOrd (joinsL n t n) t))).length = n := by
  refine len_bij (jCode (joinsL n t n) t) (nd_filter List.nodup_range) (fun a b ha hb e => h.code_inj hn ha hb e) fun x => ?_
  rw [List.mem_filter, List.mem_range]
  constructor
  · rintro ⟨h1, h2⟩; exact h.code_onto hn hd h1 h2
  · rintro ⟨a, ha, rfl⟩; exact ⟨(code_bit _ _).1, h.code_down hn ha⟩
/-- a lattice without joins has one thing -/
theorem La.no_joins (he : (joinsL n t n).length = 0) : n = 1 := by
  have hl : joinsL n t n = [] := List.length_eq_zero_iff.1 he
  have hno : ∀ j, j < n → belowL n t j = j := fun j hj => Decidable.byContradiction fun hjj => by
    have := joins_mem.2 ⟨hj, hjj⟩
    rw [hl] at this; cases this
  have key : ∀ x y, x < n → y < n → t x y = true := fun x y hx hy => (h.le_iff hn hx hy).2 fun j hj hjj _ => absurd (hno j hj) hjj
  by_cases h1 : n = 1
  · exact h1
  · have := h.anti 0 1 (by omega) (by omega) (key 0 1 (by omega) (by omega)) (key 1 0 (by omega) (by omega))
    omega
end

/-! the sets that are closed downwards, as a lattice -/
def FL (n : Nat) (g : Nat → Nat → Bool) : List Nat := (List.range (2 ^ n)).filter (isDown n g)
def incT (F : List Nat) (n : Nat) (i j : Nat) : Bool := (List.range n).all fun b => !(F.getD i 0).testBit b || (F.getD j 0).testBit b
theorem inc_iff {F : List Nat} {n i j : Nat} : incT F n i j = true ↔ ∀ b, b < n → (F.getD i 0).testBit b = true → (F.getD j 0).testBit b = true := by
  simp only [incT, List.all_eq_true, List.mem_range, Bool.or_eq_true, Bool.not_eq_true']
  constructor
  · intro h b hb h1
    rcases h b hb with g | g
    · rw [h1] at g; cases g
    · exact g
  · intro h b hb
    cases hk : (F.getD i 0).testBit b
    · exact .inl rfl
    · exact .inr (h b hb hk)
section
variable {n : Nat} {g : Nat → Nat → Bool} (G : PO n g)
include G
omit G in
theorem FL_mem {x : Nat} : x ∈ FL n g ↔ x < 2 ^ n ∧ isDown n g x = true := by simp [FL, List.mem_filter]
omit G in
theorem FL_nodup : (FL n g).Nodup := nd_filter List.nodup_range
omit G in
theorem FL_get {i : Nat} (hi : i < (FL n g).length) : (FL n g).getD i 0 < 2 ^ n ∧ isDown n g ((FL n g).getD i 0) = true := FL_mem.1 (getD_mem hi)
omit G in
theorem FL_at {x : Nat} (h1 : x < 2 ^ n) (h2 : isDown n g x = true) : ∃ i, i < (FL n g).length ∧ (FL n g).getD i 0 = x := mem_getD (FL_mem.2 ⟨h1, h2⟩)
omit G in
theorem FL_or {x y : Nat} (hx : isDown n g x = true) (hy : isDown n g y = true) : isDown n g (x ||| y) = true := by
  rw [isDown_iff] at hx hy ⊢
  intro i j hi hj h1 h2
  rw [Nat.testBit_or, Bool.or_eq_true] at h1 ⊢
  exact h1.imp (fun h => hx i j hi hj h h2) fun h => hy i j hi hj h h2
omit G in
theorem FL_and {x y : Nat} (hx : isDown n g x = true) (hy : isDown n g y = true) : isDown n g (x &&& y) = true := by
  rw [isDown_iff] at hx hy ⊢
  intro i j hi hj h1 h2
  rw [Nat.testBit_and, Bool.and_eq_true] at h1 ⊢
  exact ⟨hx i j hi hj h1.1 h2, hy i j hi hj h1.2 h2⟩
omit G in
theorem inc_po : PO (FL n g).length (incT (FL n g) n) :=
  ⟨fun i hi => inc_iff.2 fun b _ h => h, fun i j k hi hj hk h1 h2 => inc_iff.2 fun b hb h => inc_iff.1 h2 b hb (inc_iff.1 h1 b hb h),
    fun i j hi hj h1 h2 => getD_inj FL_nodup hi hj (bits_eq (FL_get hi).1 (FL_get hj).1 fun b hb => by
      rw [Bool.eq_iff_iff]; exact ⟨inc_iff.1 h1 b hb, inc_iff.1 h2 b hb⟩)⟩
omit G in
theorem inc_lat : isLat (FL n g).length (incT (FL n g) n) = true := by
  rw [isLat_has]
  refine ⟨fun a b ha hb => ?_, fun a b ha hb => ?_⟩
  · obtain ⟨c, hc, e⟩ := FL_at (Nat.or_lt_two_pow (FL_get ha).1 (FL_get hb).1) (FL_or (FL_get ha).2 (FL_get hb).2)
    refine ⟨c, hc, ?_, ?_, fun d hd h1 h2 => ?_⟩
    · rw [inc_iff, e]; intro x _ hx; rw [Nat.testBit_or, hx]; rfl
    · rw [inc_iff, e]; intro x _ hx; rw [Nat.testBit_or, hx, Bool.or_true]
    · rw [inc_iff, e]; intro x hx hxx
      rw [Nat.testBit_or, Bool.or_eq_true] at hxx
      exact hxx.elim (inc_iff.1 h1 x hx) (inc_iff.1 h2 x hx)
  · obtain ⟨c, hc, e⟩ := FL_at (Nat.and_lt_two_pow _ (FL_get hb).1) (FL_and (FL_get ha).2 (FL_get hb).2)
    refine ⟨c, hc, ?_, ?_, fun d hd h1 h2 => ?_⟩
    · unfold flipT; rw [inc_iff, e]; intro x _ hx; rw [Nat.testBit_and, Bool.and_eq_true] at hx; exact hx.1
    · unfold flipT; rw [inc_iff, e]; intro x _ hx; rw [Nat.testBit_and, Bool.and_eq_true] at hx; exact hx.2
    · unfold flipT at *; rw [inc_iff, e]; intro x hx hxx
      rw [Nat.testBit_and, Bool.and_eq_true]
      exact ⟨inc_iff.1 h1 x hx hxx, inc_iff.1 h2 x hx hxx⟩
omit G in
theorem inc_la : La (FL n g).length (incT (FL n g) n) := ⟨inc_po, inc_lat⟩
omit G in
theorem inc_jn {a b : Nat} (ha : a < (FL n g).length) (hb : b < (FL n g).length) : (FL n g).getD (jn (FL n g).length (incT (FL n g) n) a b) 0 = (FL n g).getD a 0 ||| (FL n g).getD b 0 := by
  have L := inc_la (n := n) (g := g)
  obtain ⟨c, hc, e⟩ := FL_at (Nat.or_lt_two_pow (FL_get ha).1 (FL_get hb).1) (FL_or (FL_get ha).2 (FL_get hb).2)
  have hj := L.jlt ha hb
  have h1 := inc_iff.1 (L.j1 ha hb)
  have h2 := inc_iff.1 (L.j2 ha hb)
  have h3 := inc_iff.1 (L.jl ha hb hc (by rw [inc_iff, e]; intro x _ hx; rw [Nat.testBit_or, hx]; rfl) (by rw [inc_iff, e]; intro x _ hx; rw [Nat.testBit_or, hx, Bool.or_true]))
  rw [e] at h3
  refine bits_eq (FL_get hj).1 (Nat.or_lt_two_pow (FL_get ha).1 (FL_get hb).1) fun x hx => ?_
  rw [Bool.eq_iff_iff]
  refine ⟨h3 x hx, fun hxx => ?_⟩
  rw [Nat.testBit_or, Bool.or_eq_true] at hxx
  exact hxx.elim (h1 x hx) (h2 x hx)
omit G in
theorem inc_mt {a b : Nat} (ha : a < (FL n g).length) (hb : b < (FL n g).length) : (FL n g).getD (mt (FL n g).length (incT (FL n g) n) a b) 0 = (FL n g).getD a 0 &&& (FL n g).getD b 0 := by
  have L := inc_la (n := n) (g := g)
  obtain ⟨c, hc, e⟩ := FL_at (Nat.and_lt_two_pow _ (FL_get hb).1) (FL_and (FL_get ha).2 (FL_get hb).2)
  have hj := L.mlt ha hb
  have h1 := inc_iff.1 (L.m1 ha hb)
  have h2 := inc_iff.1 (L.m2 ha hb)
  have h3 := inc_iff.1 (L.ml ha hb hc (by rw [inc_iff, e]; intro x _ hx; rw [Nat.testBit_and, Bool.and_eq_true] at hx; exact hx.1) (by rw [inc_iff, e]; intro x _ hx; rw [Nat.testBit_and, Bool.and_eq_true] at hx; exact hx.2))
  rw [e] at h3
  refine bits_eq (FL_get hj).1 (Nat.and_lt_two_pow _ (FL_get hb).1) fun x hx => ?_
  rw [Bool.eq_iff_iff]
  refine ⟨fun hxx => ?_, h3 x hx⟩
  rw [Nat.testBit_and, Bool.and_eq_true]
  exact ⟨h1 x hx hxx, h2 x hx hxx⟩
omit G in
theorem inc_dist : Dist (FL n g).length (incT (FL n g) n) := by
  have L := inc_la (n := n) (g := g)
  intro a b c ha hb hc
  refine getD_inj FL_nodup (L.mlt ha (L.jlt hb hc)) (L.jlt (L.mlt ha hb) (L.mlt ha hc)) ?_
  rw [inc_mt ha (L.jlt hb hc), inc_jn hb hc, inc_jn (L.mlt ha hb) (L.mlt ha hc), inc_mt ha hb, inc_mt ha hc, Nat.and_or_distrib_left]
/-- what is at most a thing -/
def prC (n : Nat) (g : Nat → Nat → Bool) (a : Nat) : Nat := codeOf (fun b => g b a) n
theorem prC_bit {a b : Nat} (hb : b < n) : (prC n g a).testBit b = g b a := by unfold prC; rw [(code_bit _ _).2]; simp [hb]
theorem prC_down {a : Nat} (ha : a < n) : isDown n g (prC n g a) = true := by
  rw [isDown_iff]
  intro i j hi hj h1 h2
  rw [prC_bit G hi] at h1
  rw [prC_bit G hj]
  exact G.trans _ _ _ hj hi ha h2 h1
theorem prC_at {a : Nat} (ha : a < n) : ∃ i, i < (FL n g).length ∧ (FL n g).getD i 0 = prC n g a := FL_at (code_bit _ _).1 (prC_down G ha)
omit G in
theorem FL_pos : 0 < (FL n g).length := List.length_pos_of_mem (FL_mem.2 ⟨Nat.pow_pos (by omega), isDown_iff.2 fun i j _ _ h => by simp at h⟩ : (0 : Nat) ∈ FL n g)
theorem join_pr {x : Nat} (hx : x < (FL n g).length) : belowL (FL n g).length (incT (FL n g) n) x ≠ x ↔ ∃ a, a < n ∧ (FL n g).getD x 0 = prC n g a := by
  have L := inc_la (n := n) (g := g)
  have hp := FL_pos (n := n) (g := g)
  obtain ⟨b1, b2, b3, b4⟩ := L.below hp hx
  constructor
  · intro hne
    refine Classical.byContradiction fun hno => hne ?_
    refine L.anti _ _ b1 hx b2 (inc_iff.2 fun a ha hax => ?_)
    obtain ⟨i, hi, e⟩ := prC_at G ha
    have := inc_iff.1 (b3 i hi (fun ei => hno ⟨a, ha, by rw [← ei, e]⟩) (inc_iff.2 fun b hb hbi => by
      rw [e, prC_bit G hb] at hbi
      exact isDown_iff.1 (FL_get hx).2 a b ha hb hax hbi)) a ha
    rw [e, prC_bit G ha] at this
    exact this (G.refl a ha)
  · rintro ⟨a, ha, e⟩ hxe
    -- without the thing itself
    obtain ⟨d, hd, ed⟩ := FL_at (n := n) (g := g) (x := codeOf (fun b => g b a && !decide (b = a)) n) (code_bit _ _).1 (by
      rw [isDown_iff]
      intro i j hi hj h1 h2
      rw [(code_bit _ _).2] at h1 ⊢
      simp only [hi, hj, decide_true, Bool.true_and, Bool.and_eq_true, Bool.not_eq_true', decide_eq_false_iff_not] at h1 ⊢
      refine ⟨G.trans _ _ _ hj hi ha h2 h1.1, ?_⟩
      rintro rfl
      exact h1.2 (G.anti _ _ hi hj h1.1 h2))
    have hle := b4 d hd fun y hy hne hyx => by
      rw [inc_iff, ed]
      intro b hb hby
      rw [(code_bit _ _).2]
      simp only [hb, decide_true, Bool.true_and, Bool.and_eq_true, Bool.not_eq_true', decide_eq_false_iff_not]
      have hyx' := inc_iff.1 hyx
      have h1 := hyx' b hb hby
      rw [e, prC_bit G hb] at h1
      refine ⟨h1, ?_⟩
      rintro rfl
      refine hne (L.anti _ _ hy hx hyx (inc_iff.2 fun c hc hcx => ?_))
      rw [e, prC_bit G hc] at hcx
      exact isDown_iff.1 (FL_get hy).2 b c hb hc hby hcx
    rw [hxe] at hle
    have := inc_iff.1 hle a ha (by rw [e, prC_bit G ha]; exact G.refl a ha)
    rw [ed, (code_bit _ _).2] at this
    simp at this
/-- the joins of the sets: those of all that is at most one thing -/
theorem joins_len : (joinsL (FL n g).length (incT (FL n g) n) (FL n g).length).length = n := by
  have hc : ∀ a, ∃ i, a < n → i < (FL n g).length ∧ (FL n g).getD i 0 = prC n g a := fun a => by
    by_cases ha : a < n
    · obtain ⟨i, h⟩ := prC_at G ha
      exact ⟨i, fun _ => h⟩
    · exact ⟨0, fun h => absurd h ha⟩
  obtain ⟨f, hf⟩ := Classical.axiomOfChoice hc
  refine len_bij f joins_nodup (fun a b ha hb e => ?_) fun x => ?_
  · have h1 := (hf a ha).2
    have h2 := (hf b hb).2
    rw [e, h2] at h1
    have g1 := congrArg (Nat.testBit · a) h1
    have g2 := congrArg (Nat.testBit · b) h1
    simp only [prC_bit G ha, prC_bit G hb, G.refl a ha, G.refl b hb] at g1 g2
    exact G.anti _ _ ha hb g1 g2.symm
  · rw [joins_mem]
    constructor
    · rintro ⟨hx, hne⟩
      obtain ⟨a, ha, e⟩ := (join_pr G hx).1 hne
      exact ⟨a, ha, getD_inj FL_nodup (hf a ha).1 hx ((hf a ha).2.trans e.symm)⟩
    · rintro ⟨a, ha, rfl⟩
      exact ⟨(hf a ha).1, (join_pr G (hf a ha).1).2 ⟨a, ha, (hf a ha).2⟩⟩
theorem joins_has {a : Nat} (ha : a < n) : ∃ i, i ∈ joinsL (FL n g).length (incT (FL n g) n) (FL n g).length ∧ i < (FL n g).length ∧ (FL n g).getD i 0 = prC n g a := by
  obtain ⟨i, hi, e⟩ := prC_at G ha
  exact ⟨i, joins_mem.2 ⟨hi, (join_pr G hi).2 ⟨a, ha, e⟩⟩, hi, e⟩
end
end Go.Proofs.Ythnobaacfjihcaa
