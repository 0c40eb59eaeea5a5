/-
  Plain laws: Post's theorem: what is in none of the five classes makes all.
-/
import Derived.Test.YtbmpmmbcfabeeaaTrR
namespace Go.Proofs.Ytbmpmmbcfabeeaa
open Go Go.Pv
set_option linter.unusedVariables false
set_option linter.unusedSimpArgs false
set_option maxRecDepth 100000

theorem mod_succ2 (k j : Nat) : k % 2 ^ (j + 1) = k % 2 ^ j + 2 ^ j * (k.testBit j).toNat := by
  rw [Nat.mod_pow_succ, Nat.testBit_eq_decide_div_mod_eq]
  have := Nat.mod_lt (k / 2 ^ j) (show 2 > 0 by decide)
  generalize k / 2 ^ j % 2 = d at *
  have : d = 0 ∨ d = 1 := by omega
  rcases this with rfl | rfl <;> rfl
section
variable {B : List Bool} {n : Nat}
/-- the second difference -/
def dif2 (B : List Bool) (m j i : Nat) : Bool := (gB B m != gB B (m + 2 ^ j)) != (gB B (m + 2 ^ i) != gB B (m + 2 ^ j + 2 ^ i))
theorem dif_step (h : ∀ m j i, m < 2 ^ j → j < i → i < n → dif2 B m j i = false) {i : Nat} (hi : i < n) (k : Nat) : ∀ j, j ≤ i → (gB B (k % 2 ^ j + 2 ^ i) != gB B (k % 2 ^ j)) = (gB B (2 ^ i) != gB B 0) := by
  intro j
  induction j with
  | zero => intro _; rw [Nat.pow_zero, Nat.mod_one, Nat.zero_add]
  | succ j ih =>
    intro hj
    have ih := ih (by omega)
    rw [mod_succ2]
    cases hb : k.testBit j with
    | false => simpa using ih
    | true =>
      have := h (k % 2 ^ j) j i (Nat.mod_lt _ (Nat.two_pow_pos _)) (by omega) hi
      unfold dif2 at this
      rw [← ih]
      simp only [Bool.toNat_true, Nat.mul_one]
      revert this
      generalize gB B (k % 2 ^ j) = a
      generalize gB B (k % 2 ^ j + 2 ^ j) = b
      generalize gB B (k % 2 ^ j + 2 ^ i) = c
      generalize gB B (k % 2 ^ j + 2 ^ j + 2 ^ i) = d
      cases a <;> cases b <;> cases c <;> cases d <;> decide
theorem lin_of (h : ∀ m j i, m < 2 ^ j → j < i → i < n → dif2 B m j i = false) (k : Nat) : ∀ i, i ≤ n → linS B k i = gB B (k % 2 ^ i) := by
  intro i
  induction i with
  | zero => intro _; rw [Nat.pow_zero, Nat.mod_one, linS]
  | succ i ih =>
    intro hi
    rw [linS, ih (by omega), mod_succ2]
    have hs := dif_step h (show i < n by omega) k i (Nat.le_refl _)
    cases hb : k.testBit i with
    | false => simp
    | true =>
      rw [if_pos rfl, ← hs]
      simp only [Bool.toNat_true, Nat.mul_one]
      generalize gB B (k % 2 ^ i) = a
      generalize gB B (k % 2 ^ i + 2 ^ i) = b
      cases a <;> cases b <;> rfl
theorem nonlin (h : cL B n (2 ^ n) = false) : ∃ m j i, m < 2 ^ j ∧ j < i ∧ i < n ∧ dif2 B m j i = true := by
  refine Classical.byContradiction fun g => ?_
  rw [Bool.eq_false_iff] at h
  refine h (clL_iff.2 fun k hk => ?_)
  rw [lin_of (n := n) (fun m j i h1 h2 h3 => ?_) k n (Nat.le_refl _), Nat.mod_eq_of_lt hk]
  cases hd : dif2 B m j i with
  | false => rfl
  | true => exact absurd ⟨m, j, i, h1, h2, h3, hd⟩ g
end
/-- two places are open, the others fixed -/
def twoA (m j i u v : Nat) (w : Nat) : Nat := if w = j then u else if w = i then v else if m.testBit w = true then 15 else 0
theorem two_ix {n m j i u v r : Nat} (hm : m < 2 ^ j) (hj : j < i) (hi : i < n) (hr : r < 4) : ixOf (twoA m j i u v) r n = m + (if u.testBit r = true then 2 ^ j else 0) + (if v.testBit r = true then 2 ^ i else 0) := by
  have h1 : m + (if u.testBit r = true then 2 ^ j else 0) < 2 ^ (j + 1) := by rw [Nat.pow_succ]; split <;> omega
  have h2 : 2 ^ (j + 1) ≤ 2 ^ i := Nat.pow_le_pow_right (by decide) hj
  have h3 : 2 ^ (i + 1) ≤ 2 ^ n := Nat.pow_le_pow_right (by decide) hi
  have b1 : ∀ w, (m + (if u.testBit r = true then 2 ^ j else 0)).testBit w = if w = j then u.testBit r else m.testBit w := fun w => by
    cases hu : u.testBit r with
    | true => rw [if_pos rfl, add_bit hm]
    | false =>
      rw [if_neg (by simp), Nat.add_zero]
      split
      · rename_i e; subst e; exact Nat.testBit_lt_two_pow hm
      · rfl
  have hmi : ∀ w, i ≤ w → m.testBit w = false := fun w hw => Nat.testBit_lt_two_pow (Nat.lt_of_lt_of_le hm (Nat.pow_le_pow_right (by decide) (by omega)))
  have h4 : (if v.testBit r = true then 2 ^ i else 0) ≤ 2 ^ i := by split <;> omega
  have b2 : ∀ X w, X < 2 ^ i → (X + (if v.testBit r = true then 2 ^ i else 0)).testBit w = if w = i then v.testBit r else X.testBit w := fun X w hX => by
    cases hv : v.testBit r with
    | true => rw [if_pos rfl, add_bit hX]
    | false =>
      rw [if_neg (by simp), Nat.add_zero]
      split
      · rename_i e; subst e; exact Nat.testBit_lt_two_pow hX
      · rfl
  refine bit_ext (n := n) (ix_lt _ _ _) (by rw [Nat.pow_succ] at h3; omega) fun w hw => ?_
  rw [ix_bit, b2 _ _ (by omega), b1]
  unfold twoA
  by_cases e1 : w = j
  · subst e1; rw [if_pos rfl, if_neg (by omega), if_pos rfl]; simp [hw]
  · rw [if_neg e1, if_neg e1]
    by_cases e2 : w = i
    · subst e2; rw [if_pos rfl, if_pos rfl]; simp [hw]
    · rw [if_neg e2, if_neg e2]
      cases m.testBit w <;> simp [hw, bit15 hr]
theorem odd_and : ∀ p q r s : Bool, ((p != q) != (r != s)) = true → ∃ a b g : Bool, ∀ x y : Bool, (if x then (if y then s else q) else (if y then r else p)) = (((x != a) && (y != b)) != g) := by decide
def And (S : Nat → Prop) : Prop := ∀ u v, u < 16 → v < 16 → S u → S v → ∃ w, S w ∧ w < 16 ∧ ∀ r, r < 4 → w.testBit r = (u.testBit r && v.testBit r)
theorem post_and {l : List Tab} {S : Nat → Prop} (hS : Cl l S) (hn : Neg S) (h15 : S 15) (h0 : S 0) (h4 : ∃ t ∈ l, cL t.bits t.n.toNat (2 ^ t.n.toNat) = false) : And S := by
  obtain ⟨t, ht, h4⟩ := h4
  obtain ⟨m, j, i, hm, hj, hi, hd⟩ := nonlin h4
  unfold dif2 at hd
  obtain ⟨a, b, g, hf⟩ := odd_and _ _ _ _ hd
  have bin : ∀ u v, u < 16 → v < 16 → S u → S v → ∃ w, S w ∧ w < 16 ∧ ∀ r, r < 4 → w.testBit r = (((u.testBit r != a) && (v.testBit r != b)) != g) := by
    intro u v hu hv su sv
    refine ⟨_, hS.put t ht (twoA m j i u v) fun w _ => ?_, put_lt _ _ _, fun r hr => ?_⟩
    · unfold twoA; (repeat' split)
      · exact ⟨su, hu⟩
      · exact ⟨sv, hv⟩
      · exact ⟨h15, by decide⟩
      · exact ⟨h0, by decide⟩
    · rw [put_bit _ _ _ hr, two_ix hm hj hi hr, ← hf]
      cases u.testBit r <;> cases v.testBit r <;> simp
  have flip : ∀ (c : Bool) u, u < 16 → S u → ∃ w, S w ∧ w < 16 ∧ ∀ r, r < 4 → w.testBit r = (u.testBit r != c) := by
    intro c u hu su
    cases c with
    | false => exact ⟨u, su, hu, fun r _ => by simp⟩
    | true => exact ⟨15 - u, hn u hu su, by omega, fun r hr => by rw [neg15 hu hr]; simp⟩
  intro u v hu hv su sv
  obtain ⟨u', su', hu', eu⟩ := flip a u hu su
  obtain ⟨v', sv', hv', ev⟩ := flip b v hv sv
  obtain ⟨w, sw, hw, ew⟩ := bin u' v' hu' hv' su' sv'
  obtain ⟨z, sz, hz, ez⟩ := flip g w hw sw
  refine ⟨z, sz, hz, fun r hr => ?_⟩
  rw [ez r hr, ew r hr, eu r hr, ev r hr]
  cases a <;> cases b <;> cases g <;> cases u.testBit r <;> cases v.testBit r <;> rfl
theorem all16 {S : Nat → Prop} (hx : S 10) (hy : S 12) (hn : Neg S) (ha : And S) (h15 : S 15) (h0 : S 0) : ∀ f, f < 16 → S f := by
  have an : ∀ u v w, u < 16 → v < 16 → w < 16 → S u → S v → (∀ r, r < 4 → w.testBit r = (u.testBit r && v.testBit r)) → S w := by
    intro u v w hu hv hw su sv h
    obtain ⟨z, sz, hz, ez⟩ := ha u v hu hv su sv
    rw [show w = z from eq16 hw hz fun r hr => by rw [h r hr, ez r hr]]
    exact sz
  have h5 : S 5 := hn 10 (by decide) hx
  have h3 : S 3 := hn 12 (by decide) hy
  have h8 : S 8 := an 10 12 8 (by decide) (by decide) (by decide) hx hy (by decide)
  have h4 : S 4 := an 5 12 4 (by decide) (by decide) (by decide) h5 hy (by decide)
  have h2 : S 2 := an 10 3 2 (by decide) (by decide) (by decide) hx h3 (by decide)
  have h1 : S 1 := an 5 3 1 (by decide) (by decide) (by decide) h5 h3 (by decide)
  have h7 : S 7 := hn 8 (by decide) h8
  have h11 : S 11 := hn 4 (by decide) h4
  have h13 : S 13 := hn 2 (by decide) h2
  have h14 : S 14 := hn 1 (by decide) h1
  have h6 : S 6 := an 7 14 6 (by decide) (by decide) (by decide) h7 h14 (by decide)
  have h9 : S 9 := hn 6 (by decide) h6
  intro f hf
  have : f = 0 ∨ f = 1 ∨ f = 2 ∨ f = 3 ∨ f = 4 ∨ f = 5 ∨ f = 6 ∨ f = 7 ∨ f = 8 ∨ f = 9 ∨ f = 10 ∨ f = 11 ∨ f = 12 ∨ f = 13 ∨ f = 14 ∨ f = 15 := by omega
  rcases this with rfl | rfl | rfl | rfl | rfl | rfl | rfl | rfl | rfl | rfl | rfl | rfl | rfl | rfl | rfl | rfl <;> assumption
/-- POST -/
theorem post (l : List Tab) : (∀ f, f < 16 → Reach l f) ↔ true ∉ five l := by
  have hj : ∀ j, j < 5 → (allT l j = true → ¬ ∀ f, f < 16 → Reach l f) := by
    intro j hj h g
    obtain ⟨f, hf, hn⟩ := out_class j hj
    exact hn (g f hf _ (cl_class l j hj (by unfold allT at h; exact List.all_eq_true.1 h)))
  have ex : ∀ j, allT l j = false → ∃ t ∈ l, clsAt t j = false := fun j h => by
    unfold allT at h
    obtain ⟨t, ht, hc⟩ := List.all_eq_false.1 h
    exact ⟨t, ht, by simpa using hc⟩
  constructor
  · intro h g
    unfold five at g
    simp only [List.mem_cons, List.not_mem_nil, or_false] at g
    rcases g with g | g | g | g | g
    · exact hj 0 (by decide) g.symm h
    · exact hj 1 (by decide) g.symm h
    · exact hj 2 (by decide) g.symm h
    · exact hj 3 (by decide) g.symm h
    · exact hj 4 (by decide) g.symm h
  · intro h
    unfold five at h
    simp only [List.mem_cons, List.not_mem_nil, or_false, not_or] at h
    obtain ⟨h0, h1, h2, h3, h4⟩ := h
    obtain ⟨t0, m0, c0⟩ := ex 0 (by cases e : allT l 0 <;> simp_all)
    obtain ⟨t1, m1, c1⟩ := ex 1 (by cases e : allT l 1 <;> simp_all)
    obtain ⟨t2, m2, c2⟩ := ex 2 (by cases e : allT l 2 <;> simp_all)
    obtain ⟨t3, m3, c3⟩ := ex 3 (by cases e : allT l 3 <;> simp_all)
    obtain ⟨t4, m4, c4⟩ := ex 4 (by cases e : allT l 4 <;> simp_all)
    rw [(cls_at t0).1] at c0
    rw [(cls_at t1).2.1] at c1
    rw [(cls_at t2).2.2.1] at c2
    rw [(cls_at t3).2.2.2.1] at c3
    rw [(cls_at t4).2.2.2.2] at c4
    intro f hf S hS
    have hn := post_neg hS (post_one hS ⟨t0, m0, by simpa using c0⟩ ⟨t1, m1, c1⟩) ⟨t3, m3, c3⟩
    obtain ⟨h15, h00⟩ := post_const hS hn ⟨t2, m2, c2⟩
    exact all16 hS.x hS.y hn (post_and hS hn h15 h00 ⟨t4, m4, c4⟩) h15 h00 f hf
end Go.Proofs.Ytbmpmmbcfabeeaa
