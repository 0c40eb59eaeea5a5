/-
  Plain laws: Post's theorem, both ways.
-/
import Derived.Test.YtbmpmmbcfabeeaaTrQ
namespace Go.Proofs.Ytbmpmmbcfabeeaa
open Go Go.Pv
set_option linter.unusedVariables false
set_option linter.unusedSimpArgs false
set_option maxRecDepth 100000

def xor4 (f : Nat) : Bool := ((f.testBit 0 != f.testBit 1) != (f.testBit 2 != f.testBit 3))
/-- the classes, of functions of two values -/
def Sx : Nat → Nat → Prop
  | 0, f => f.testBit 0 = false
  | 1, f => f.testBit 3 = true
  | 2, f => f.testBit 3 = !f.testBit 0 ∧ f.testBit 2 = !f.testBit 1
  | 3, f => (f.testBit 0 = true → f.testBit 1 = true) ∧ (f.testBit 0 = true → f.testBit 2 = true) ∧ (f.testBit 1 = true → f.testBit 3 = true) ∧ (f.testBit 2 = true → f.testBit 3 = true)
  | _, f => xor4 f = false
theorem neg_bit {n x : Nat} (h : x < 2 ^ n) (i : Nat) : (2 ^ n - 1 - x).testBit i = (decide (i < n) && !x.testBit i) := by
  rw [show 2 ^ n - 1 - x = 2 ^ n - (x + 1) by omega]
  exact Nat.testBit_two_pow_sub_succ h i
theorem cls_at (t : Tab) : clsAt t 0 = !gB t.bits 0 ∧ clsAt t 1 = gB t.bits (2 ^ t.n.toNat - 1) ∧ clsAt t 2 = cD t.bits t.n.toNat (2 ^ t.n.toNat) ∧ clsAt t 3 = cM t.bits t.n.toNat (2 ^ t.n.toNat) ∧ clsAt t 4 = cL t.bits t.n.toNat (2 ^ t.n.toNat) :=
  ⟨rfl, rfl, rfl, rfl, rfl⟩
theorem lin_xor {B : List Bool} (a : Nat → Nat) (n : Nat) (h : ∀ i, i < n → xor4 (a i) = false) : ∀ i, i ≤ n → ((linS B (ixOf a 0 n) i != linS B (ixOf a 1 n) i) != (linS B (ixOf a 2 n) i != linS B (ixOf a 3 n) i)) = false := by
  intro i
  induction i with
  | zero => intro _; simp [linS]
  | succ i ih =>
    intro hi
    have ih := ih (by omega)
    have hx := h i (by omega)
    unfold xor4 at hx
    simp only [linS, ix_bit, show i < n by omega, decide_true, Bool.true_and]
    generalize (gB B (2 ^ i) != gB B 0) = c at *
    generalize linS B (ixOf a 0 n) i = y0 at *
    generalize linS B (ixOf a 1 n) i = y1 at *
    generalize linS B (ixOf a 2 n) i = y2 at *
    generalize linS B (ixOf a 3 n) i = y3 at *
    generalize (a i).testBit 0 = b0 at *
    generalize (a i).testBit 1 = b1 at *
    generalize (a i).testBit 2 = b2 at *
    generalize (a i).testBit 3 = b3 at *
    revert ih hx
    cases c <;> cases y0 <;> cases y1 <;> cases y2 <;> cases y3 <;> cases b0 <;> cases b1 <;> cases b2 <;> cases b3 <;> decide
theorem cl_class (l : List Tab) (j : Nat) (hj : j < 5) (h : ∀ t ∈ l, clsAt t j = true) : Cl l (Sx j) := by
  have hj5 : j = 0 ∨ j = 1 ∨ j = 2 ∨ j = 3 ∨ j = 4 := by omega
  rcases hj5 with rfl | rfl | rfl | rfl | rfl
  · refine ⟨by simp [Sx], by simp [Sx], fun t ht a ha => ?_⟩
    have hc := h t ht
    rw [(cls_at t).1] at hc
    show (putB _ _ a).testBit 0 = false
    rw [put_bit _ _ _ (by decide)]
    have : ixOf a 0 t.n.toNat = 0 := bit_ext (n := t.n.toNat) (ix_lt _ _ _) (Nat.two_pow_pos _) fun i hi => by
      rw [ix_bit, show (a i).testBit 0 = false from (ha i hi).1]; simp
    rw [this]; simpa using hc
  · refine ⟨(by decide : Nat.testBit 10 3 = true), (by decide : Nat.testBit 12 3 = true), fun t ht a ha => ?_⟩
    have hc := h t ht
    rw [(cls_at t).2.1] at hc
    show (putB _ _ a).testBit 3 = true
    rw [put_bit _ _ _ (by decide)]
    have : ixOf a 3 t.n.toNat = 2 ^ t.n.toNat - 1 := bit_ext (n := t.n.toNat) (ix_lt _ _ _) (by have := Nat.two_pow_pos t.n.toNat; omega) fun i hi => by
      rw [ix_bit, show (a i).testBit 3 = true from (ha i hi).1, Nat.testBit_two_pow_sub_one]; simp
    rw [this]; exact hc
  · refine ⟨⟨by decide, by decide⟩, ⟨by decide, by decide⟩, fun t ht a ha => ?_⟩
    have hc := h t ht
    rw [(cls_at t).2.2.1, clD_iff] at hc
    have key : ∀ r, r < 4 → (∀ i, i < t.n.toNat → (a i).testBit (3 - r) = !(a i).testBit r) → (putB t.bits t.n.toNat a).testBit (3 - r) = !(putB t.bits t.n.toNat a).testBit r := by
      intro r hr hs
      rw [put_bit _ _ _ hr, put_bit _ _ _ (show 3 - r < 4 by omega)]
      have e : ixOf a (3 - r) t.n.toNat = 2 ^ t.n.toNat - 1 - ixOf a r t.n.toNat := bit_ext (n := t.n.toNat) (ix_lt _ _ _) (by have := Nat.two_pow_pos t.n.toNat; omega) fun i hi => by
        rw [neg_bit (ix_lt _ _ _), ix_bit, ix_bit, hs i hi]; simp [hi]
      have := hc _ (ix_lt a r t.n.toNat)
      rw [e]
      generalize gB t.bits (2 ^ t.n.toNat - 1 - ixOf a r t.n.toNat) = p at *
      generalize gB t.bits (ixOf a r t.n.toNat) = q at *
      cases p <;> cases q <;> simp_all
    exact ⟨key 0 (by decide) fun i hi => (ha i hi).1.1, key 1 (by decide) fun i hi => (ha i hi).1.2⟩
  · refine ⟨⟨by decide, by decide, by decide, by decide⟩, ⟨by decide, by decide, by decide, by decide⟩, fun t ht a ha => ?_⟩
    have hc := h t ht
    rw [(cls_at t).2.2.2.1, clM_iff] at hc
    have key : ∀ r s, r < 4 → s < 4 → (∀ i, i < t.n.toNat → (a i).testBit r = true → (a i).testBit s = true) → (putB t.bits t.n.toNat a).testBit r = true → (putB t.bits t.n.toNat a).testBit s = true := by
      intro r s hr hs' hs hp
      rw [put_bit _ _ _ hr] at hp
      rw [put_bit _ _ _ hs']
      refine mono_full hc _ _ _ (ix_lt _ _ _) (ix_lt _ _ _) (fun i hi => ?_) rfl hp
      rw [ix_bit] at hi ⊢
      simp only [Bool.and_eq_true, decide_eq_true_eq] at hi ⊢
      exact ⟨hi.1, hs i hi.1 hi.2⟩
    exact ⟨key 0 1 (by decide) (by decide) fun i hi => (ha i hi).1.1, key 0 2 (by decide) (by decide) fun i hi => (ha i hi).1.2.1, key 1 3 (by decide) (by decide) fun i hi => (ha i hi).1.2.2.1, key 2 3 (by decide) (by decide) fun i hi => (ha i hi).1.2.2.2⟩
  · refine ⟨(by decide : xor4 10 = false), (by decide : xor4 12 = false), fun t ht a ha => ?_⟩
    have hc := h t ht
    rw [(cls_at t).2.2.2.2, clL_iff] at hc
    show xor4 _ = false
    unfold xor4
    rw [put_bit _ _ _ (by decide), put_bit _ _ _ (by decide), put_bit _ _ _ (by decide), put_bit _ _ _ (by decide)]
    rw [← hc _ (ix_lt a 0 _), ← hc _ (ix_lt a 1 _), ← hc _ (ix_lt a 2 _), ← hc _ (ix_lt a 3 _)]
    exact lin_xor a _ (fun i hi => (ha i hi).1) _ (Nat.le_refl _)
theorem out_class (j : Nat) (hj : j < 5) : ∃ f, f < 16 ∧ ¬ Sx j f := by
  have hj5 : j = 0 ∨ j = 1 ∨ j = 2 ∨ j = 3 ∨ j = 4 := by omega
  rcases hj5 with rfl | rfl | rfl | rfl | rfl
  · exact ⟨1, by decide, by simp [Sx]⟩
  · exact ⟨0, by decide, by simp [Sx]⟩
  · exact ⟨0, by decide, by simp [Sx]⟩
  · exact ⟨1, by decide, fun h => absurd (h.1 (by decide)) (by decide)⟩
  · exact ⟨8, by decide, fun h => by have h : xor4 8 = false := h; revert h; decide⟩
/-! what is in no class makes all -/
section
variable {l : List Tab} {S : Nat → Prop} (hS : Cl l S)
/-- arguments that take u where a bit is set, and v elsewhere -/
def mixA (k u v : Nat) (i : Nat) : Nat := if k.testBit i = true then u else v
include hS in
theorem sub_in {t : Tab} (ht : t ∈ l) {k u v : Nat} (hu : S u) (hv : S v) (hu' : u < 16) (hv' : v < 16) : S (putB t.bits t.n.toNat (mixA k u v)) := hS.put t ht _ fun i _ => by
  unfold mixA; split
  · exact ⟨hu, hu'⟩
  · exact ⟨hv, hv'⟩
theorem mix_ix {n k u v r : Nat} (hk : k < 2 ^ n) : ixOf (mixA k u v) r n = if u.testBit r = true then (if v.testBit r = true then 2 ^ n - 1 else k) else (if v.testBit r = true then 2 ^ n - 1 - k else 0) := by
  have hp := Nat.two_pow_pos n
  refine bit_ext (n := n) (ix_lt _ _ _) (by (repeat' split) <;> omega) fun i hi => ?_
  rw [ix_bit]
  unfold mixA
  cases hu : u.testBit r <;> cases hv : v.testBit r <;> cases hb : k.testBit i <;> simp [hi, hu, hv, hb, Nat.testBit_two_pow_sub_one, neg_bit hk]
def Neg (S : Nat → Prop) : Prop := ∀ u, u < 16 → S u → S (15 - u)
theorem neg15 {u : Nat} (hu : u < 16) {r : Nat} (hr : r < 4) : (15 - u).testBit r = !u.testBit r := by
  have := neg_bit (n := 4) hu r
  rw [show 2 ^ 4 - 1 - u = 15 - u from rfl] at this
  rw [this]; simp [hr]
include hS in
theorem post_one (h0 : ∃ t ∈ l, gB t.bits 0 = true) (h1 : ∃ t ∈ l, gB t.bits (2 ^ t.n.toNat - 1) = false) : Neg S ∨ (S 15 ∧ S 0) := by
  obtain ⟨t, ht, h0⟩ := h0
  obtain ⟨s, hs, h1⟩ := h1
  have one : ∀ t ∈ l, ∀ u, u < 16 → S u → S (putB t.bits t.n.toNat (mixA 0 u u)) := fun t ht u hu h => sub_in hS ht h h hu hu
  have ix : ∀ t : Tab, ∀ u r, ixOf (mixA 0 u u) r t.n.toNat = if u.testBit r = true then 2 ^ t.n.toNat - 1 else 0 := fun t u r => by
    rw [mix_ix (Nat.two_pow_pos _)]
    cases u.testBit r <;> simp
  by_cases c0 : gB t.bits (2 ^ t.n.toNat - 1) = true
  · by_cases c1 : gB s.bits 0 = true
    · left
      intro u hu h
      have := one s hs u hu h
      rw [show putB s.bits s.n.toNat (mixA 0 u u) = 15 - u from eq16 (put_lt _ _ _) (by omega) fun r hr => by
        rw [put_bit _ _ _ hr, neg15 hu hr, ix]
        cases u.testBit r
        · simpa using c1
        · simpa using h1] at this
      exact this
    · right
      refine ⟨?_, ?_⟩
      · have := one t ht 10 (by decide) hS.x
        rw [show putB t.bits t.n.toNat (mixA 0 10 10) = 15 from eq16 (put_lt _ _ _) (by decide) fun r hr => by
          rw [put_bit _ _ _ hr, ix]
          have e15 : Nat.testBit 15 r = true := by
            have : r = 0 ∨ r = 1 ∨ r = 2 ∨ r = 3 := by omega
            rcases this with rfl | rfl | rfl | rfl <;> decide
          rw [e15]
          split
          · exact c0
          · exact h0] at this
        exact this
      · have := one s hs 10 (by decide) hS.x
        rw [show putB s.bits s.n.toNat (mixA 0 10 10) = 0 from eq16 (put_lt _ _ _) (by decide) fun r hr => by
          rw [put_bit _ _ _ hr, ix, Nat.zero_testBit]
          split
          · exact h1
          · simpa using c1] at this
        exact this
  · left
    intro u hu h
    have := one t ht u hu h
    rw [show putB t.bits t.n.toNat (mixA 0 u u) = 15 - u from eq16 (put_lt _ _ _) (by omega) fun r hr => by
      rw [put_bit _ _ _ hr, neg15 hu hr, ix]
      cases u.testBit r
      · simpa using h0
      · simpa using c0] at this
    exact this
/-- arguments that are constant but for one place, or two -/
def oneA (k i u : Nat) (j : Nat) : Nat := if j = i then u else if k.testBit j = true then 15 else 0
theorem bit15 {r : Nat} (hr : r < 4) : Nat.testBit 15 r = true := by
  have : r = 0 ∨ r = 1 ∨ r = 2 ∨ r = 3 := by omega
  rcases this with rfl | rfl | rfl | rfl <;> decide
include hS in
theorem post_neg (h : Neg S ∨ (S 15 ∧ S 0)) (h3 : ∃ t ∈ l, cM t.bits t.n.toNat (2 ^ t.n.toNat) = false) : Neg S := by
  rcases h with h | ⟨h15, h0⟩
  · exact h
  · obtain ⟨t, ht, h3⟩ := h3
    obtain ⟨k, i, hk, hi, hb, hg, hg2⟩ : ∃ k i, k < 2 ^ t.n.toNat ∧ i < t.n.toNat ∧ k.testBit i = false ∧ gB t.bits k = true ∧ gB t.bits (k ||| 2 ^ i) = false := by
      refine Classical.byContradiction fun g => ?_
      rw [Bool.eq_false_iff] at h3
      refine h3 (clM_iff.2 fun k i hk hi hb hg => ?_)
      cases hx : gB t.bits (k ||| 2 ^ i) with
      | true => rfl
      | false => exact absurd ⟨k, i, hk, hi, hb, hg, hx⟩ g
    intro u hu hSu
    have := hS.put t ht (oneA k i u) fun j _ => by
      unfold oneA; (repeat' split)
      · exact ⟨hSu, hu⟩
      · exact ⟨h15, by decide⟩
      · exact ⟨h0, by decide⟩
    rw [show putB t.bits t.n.toNat (oneA k i u) = 15 - u from eq16 (put_lt _ _ _) (by omega) fun r hr => by
      rw [put_bit _ _ _ hr, neg15 hu hr]
      have e : ixOf (oneA k i u) r t.n.toNat = if u.testBit r = true then k ||| 2 ^ i else k := bit_ext (n := t.n.toNat) (ix_lt _ _ _) (by
          split
          · exact Nat.or_lt_two_pow hk (Nat.pow_lt_pow_right (by decide) hi)
          · exact hk) fun j hj => by
        rw [ix_bit]
        unfold oneA
        by_cases e : j = i
        · subst e; cases hu2 : u.testBit r <;> simp [hj, hb, hu2, or_bit]
        · have e' : ¬ i = j := fun h => e h.symm
          cases hu2 : u.testBit r <;> cases hkj : k.testBit j <;> simp [hj, e, e', hkj, or_bit, bit15 hr]
      rw [e]
      cases u.testBit r
      · simpa using hg
      · simpa using hg2] at this
    exact this
include hS in
theorem post_const (hn : Neg S) (h2 : ∃ t ∈ l, cD t.bits t.n.toNat (2 ^ t.n.toNat) = false) : S 15 ∧ S 0 := by
  obtain ⟨t, ht, h2⟩ := h2
  obtain ⟨k, hk, hg⟩ : ∃ k, k < 2 ^ t.n.toNat ∧ gB t.bits (2 ^ t.n.toNat - 1 - k) = gB t.bits k := by
    refine Classical.byContradiction fun g => ?_
    rw [Bool.eq_false_iff] at h2
    exact h2 (clD_iff.2 fun k hk e => g ⟨k, hk, e⟩)
  have h5 := hn 10 (by decide) hS.x
  have := sub_in hS ht (k := k) hS.x h5 (by decide) (by decide)
  have hb : ∀ r, r < 4 → (putB t.bits t.n.toNat (mixA k 10 5)).testBit r = gB t.bits k := fun r hr => by
    rw [put_bit _ _ _ hr, mix_ix hk]
    have e : Nat.testBit 5 r = !Nat.testBit 10 r := neg15 (u := 10) (by decide) hr
    rw [e]
    cases Nat.testBit 10 r
    · simpa using hg
    · simp
  cases hc : gB t.bits k with
  | true =>
    have e : putB t.bits t.n.toNat (mixA k 10 5) = 15 := eq16 (put_lt _ _ _) (by decide) fun r hr => by rw [hb r hr, hc, bit15 hr]
    have h15 : S 15 := by rw [← e]; exact this
    exact ⟨h15, hn 15 (by decide) h15⟩
  | false =>
    have e : putB t.bits t.n.toNat (mixA k 10 5) = 0 := eq16 (put_lt _ _ _) (by decide) fun r hr => by rw [hb r hr, hc, Nat.zero_testBit]
    have h0 : S 0 := by rw [← e]; exact this
    exact ⟨hn 0 (by decide) h0, h0⟩
end
end Go.Proofs.Ytbmpmmbcfabeeaa
