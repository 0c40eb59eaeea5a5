import Derived.Test.YtkadceiolddmhaaACdB
import Derived.Test.YtkadceiolddmhaaACcZ
set_option linter.unusedVariables false
set_option linter.unusedSimpArgs false
set_option maxRecDepth 100000
set_option maxHeartbeats 4000000
namespace Go.Proofs.Ytkadceiolddmhaa
open Go Go.Pv
theorem name_or (n : ByteArray) : n = ⟨#[97, 120]⟩ ∨ n = ⟨#[116, 114, 117, 101]⟩ ∨ n = ⟨#[102, 97, 108, 115, 101]⟩ ∨ n = ⟨#[97, 110, 100, 45, 108]⟩ ∨ n = ⟨#[97, 110, 100, 45, 114]⟩ ∨ n = ⟨#[111, 114, 45, 108]⟩ ∨ n = ⟨#[116, 104, 101, 110, 45, 114]⟩ ∨ n = ⟨#[110, 111, 116, 45, 114]⟩ ∨ n = ⟨#[99, 111, 110, 116, 114, 45, 108]⟩ ∨ n = ⟨#[99, 117, 116]⟩ ∨ n = ⟨#[116, 104, 101, 110, 45, 108]⟩ ∨ n = ⟨#[110, 111, 116, 45, 108]⟩ ∨ n = ⟨#[111, 114, 45, 114]⟩ ∨ n = ⟨#[99, 111, 110, 116, 114, 45, 114]⟩ ∨ n = ⟨#[111, 114, 45, 114, 49]⟩ ∨ n = ⟨#[111, 114, 45, 114, 50]⟩ ∨ (n ≠ ⟨#[97, 120]⟩ ∧ n ≠ ⟨#[116, 114, 117, 101]⟩ ∧ n ≠ ⟨#[102, 97, 108, 115, 101]⟩ ∧ n ≠ ⟨#[97, 110, 100, 45, 108]⟩ ∧ n ≠ ⟨#[97, 110, 100, 45, 114]⟩ ∧ n ≠ ⟨#[111, 114, 45, 108]⟩ ∧ n ≠ ⟨#[116, 104, 101, 110, 45, 114]⟩ ∧ n ≠ ⟨#[110, 111, 116, 45, 114]⟩ ∧ n ≠ ⟨#[99, 111, 110, 116, 114, 45, 108]⟩ ∧ n ≠ ⟨#[99, 117, 116]⟩ ∧ n ≠ ⟨#[116, 104, 101, 110, 45, 108]⟩ ∧ n ≠ ⟨#[110, 111, 116, 45, 108]⟩ ∧ n ≠ ⟨#[111, 114, 45, 114]⟩ ∧ n ≠ ⟨#[99, 111, 110, 116, 114, 45, 114]⟩ ∧ n ≠ ⟨#[111, 114, 45, 114, 49]⟩ ∧ n ≠ ⟨#[111, 114, 45, 114, 50]⟩) := by
 by_cases h0 : n = ⟨#[97, 120]⟩
 ·exact .inl h0
 refine .inr ?_
 by_cases h1 : n = ⟨#[116, 114, 117, 101]⟩
 ·exact .inl h1
 refine .inr ?_
 by_cases h2 : n = ⟨#[102, 97, 108, 115, 101]⟩
 ·exact .inl h2
 refine .inr ?_
 by_cases h3 : n = ⟨#[97, 110, 100, 45, 108]⟩
 ·exact .inl h3
 refine .inr ?_
 by_cases h4 : n = ⟨#[97, 110, 100, 45, 114]⟩
 ·exact .inl h4
 refine .inr ?_
 by_cases h5 : n = ⟨#[111, 114, 45, 108]⟩
 ·exact .inl h5
 refine .inr ?_
 by_cases h6 : n = ⟨#[116, 104, 101, 110, 45, 114]⟩
 ·exact .inl h6
 refine .inr ?_
 by_cases h7 : n = ⟨#[110, 111, 116, 45, 114]⟩
 ·exact .inl h7
 refine .inr ?_
 by_cases h8 : n = ⟨#[99, 111, 110, 116, 114, 45, 108]⟩
 ·exact .inl h8
 refine .inr ?_
 by_cases h9 : n = ⟨#[99, 117, 116]⟩
 ·exact .inl h9
 refine .inr ?_
 by_cases h10 : n = ⟨#[116, 104, 101, 110, 45, 108]⟩
 ·exact .inl h10
 refine .inr ?_
 by_cases h11 : n = ⟨#[110, 111, 116, 45, 108]⟩
 ·exact .inl h11
 refine .inr ?_
 by_cases h12 : n = ⟨#[111, 114, 45, 114]⟩
 ·exact .inl h12
 refine .inr ?_
 by_cases h13 : n = ⟨#[99, 111, 110, 116, 114, 45, 114]⟩
 ·exact .inl h13
 refine .inr ?_
 by_cases h14 : n = ⟨#[111, 114, 45, 114, 49]⟩
 ·exact .inl h14
 refine .inr ?_
 by_cases h15 : n = ⟨#[111, 114, 45, 114, 50]⟩
 ·exact .inl h15
 refine .inr ?_
 exact ⟨h0, h1, h2, h3, h4, h5, h6, h7, h8, h9, h10, h11, h12, h13, h14, h15⟩
theorem hasR_eq (l : List Fm) (f : Fm) : hasR l f = hasF l f := by
 unfold hasR
 rw [Bool.eq_iff_iff, List.any_eq_true, hasF_iff]
 constructor
 ·rintro ⟨y, hy, h⟩; rwa [← sameB_iff.1 h]
 ·exact fun h => ⟨f, h, sameB_iff.2 rfl⟩
theorem ruleT_none (u : Bool) {n : ByteArray} (h : n ≠ ⟨#[97, 120]⟩ ∧ n ≠ ⟨#[116, 114, 117, 101]⟩ ∧ n ≠ ⟨#[102, 97, 108, 115, 101]⟩ ∧ n ≠ ⟨#[97, 110, 100, 45, 108]⟩ ∧ n ≠ ⟨#[97, 110, 100, 45, 114]⟩ ∧ n ≠ ⟨#[111, 114, 45, 108]⟩ ∧ n ≠ ⟨#[116, 104, 101, 110, 45, 114]⟩ ∧ n ≠ ⟨#[110, 111, 116, 45, 114]⟩ ∧ n ≠ ⟨#[99, 111, 110, 116, 114, 45, 108]⟩ ∧ n ≠ ⟨#[99, 117, 116]⟩ ∧ n ≠ ⟨#[116, 104, 101, 110, 45, 108]⟩ ∧ n ≠ ⟨#[110, 111, 116, 45, 108]⟩ ∧ n ≠ ⟨#[111, 114, 45, 114]⟩ ∧ n ≠ ⟨#[99, 111, 110, 116, 114, 45, 114]⟩ ∧ n ≠ ⟨#[111, 114, 45, 114, 49]⟩ ∧ n ≠ ⟨#[111, 114, 45, 114, 50]⟩) : ruleT u n = none := by
 obtain ⟨h0, h1, h2, h3, h4, h5, h6, h7, h8, h9, h10, h11, h12, h13, h14, h15⟩ := h
 unfold ruleT lookT
 cases u <;> simp [sharedT, classT, intuT, h0, h1, h2, h3, h4, h5, h6, h7, h8, h9, h10, h11, h12, h13, h14, h15]
theorem rt_ax_f : ruleT false ⟨#[97, 120]⟩ = some ⟨201, [], axR⟩ := by kernel_rfl
theorem rt_ax_t : ruleT true ⟨#[97, 120]⟩ = some ⟨201, [], axR⟩ := by kernel_rfl
theorem rt_true_f : ruleT false ⟨#[116, 114, 117, 101]⟩ = some ⟨202, [], trueR⟩ := by kernel_rfl
theorem rt_true_t : ruleT true ⟨#[116, 114, 117, 101]⟩ = some ⟨202, [], trueR⟩ := by kernel_rfl
theorem rt_false_f : ruleT false ⟨#[102, 97, 108, 115, 101]⟩ = some ⟨204, [], falseR⟩ := by kernel_rfl
theorem rt_false_t : ruleT true ⟨#[102, 97, 108, 115, 101]⟩ = some ⟨204, [], falseR⟩ := by kernel_rfl
theorem rt_andl_f : ruleT false ⟨#[97, 110, 100, 45, 108]⟩ = some ⟨205, [], andLR⟩ := by kernel_rfl
theorem rt_andl_t : ruleT true ⟨#[97, 110, 100, 45, 108]⟩ = some ⟨205, [], andLR⟩ := by kernel_rfl
theorem rt_andr_f : ruleT false ⟨#[97, 110, 100, 45, 114]⟩ = some ⟨207, [], andRR⟩ := by kernel_rfl
theorem rt_andr_t : ruleT true ⟨#[97, 110, 100, 45, 114]⟩ = some ⟨207, [], andRR⟩ := by kernel_rfl
theorem rt_orl_f : ruleT false ⟨#[111, 114, 45, 108]⟩ = some ⟨208, [], orLR⟩ := by kernel_rfl
theorem rt_orl_t : ruleT true ⟨#[111, 114, 45, 108]⟩ = some ⟨208, [], orLR⟩ := by kernel_rfl
theorem rt_thenr_f : ruleT false ⟨#[116, 104, 101, 110, 45, 114]⟩ = some ⟨209, [], thenRR⟩ := by kernel_rfl
theorem rt_thenr_t : ruleT true ⟨#[116, 104, 101, 110, 45, 114]⟩ = some ⟨209, [], thenRR⟩ := by kernel_rfl
theorem rt_notr_f : ruleT false ⟨#[110, 111, 116, 45, 114]⟩ = some ⟨210, [], notRR⟩ := by kernel_rfl
theorem rt_notr_t : ruleT true ⟨#[110, 111, 116, 45, 114]⟩ = some ⟨210, [], notRR⟩ := by kernel_rfl
theorem rt_contrl_f : ruleT false ⟨#[99, 111, 110, 116, 114, 45, 108]⟩ = some ⟨211, [], contrLR⟩ := by kernel_rfl
theorem rt_contrl_t : ruleT true ⟨#[99, 111, 110, 116, 114, 45, 108]⟩ = some ⟨211, [], contrLR⟩ := by kernel_rfl
theorem rt_cut_f : ruleT false ⟨#[99, 117, 116]⟩ = some ⟨216, [], cutCR⟩ := by kernel_rfl
theorem rt_cut_t : ruleT true ⟨#[99, 117, 116]⟩ = some ⟨220, [], cutIR⟩ := by kernel_rfl
theorem rt_thenl_f : ruleT false ⟨#[116, 104, 101, 110, 45, 108]⟩ = some ⟨213, [], thenLR⟩ := by kernel_rfl
theorem rt_thenl_t : ruleT true ⟨#[116, 104, 101, 110, 45, 108]⟩ = some ⟨218, [], thenIR⟩ := by kernel_rfl
theorem rt_notl_f : ruleT false ⟨#[110, 111, 116, 45, 108]⟩ = some ⟨214, [], notLR⟩ := by kernel_rfl
theorem rt_notl_t : ruleT true ⟨#[110, 111, 116, 45, 108]⟩ = some ⟨219, [], notIR⟩ := by kernel_rfl
theorem rt_orr_f : ruleT false ⟨#[111, 114, 45, 114]⟩ = some ⟨212, [], orRR⟩ := by kernel_rfl
theorem rt_orr_t : ruleT true ⟨#[111, 114, 45, 114]⟩ = none := by kernel_rfl
theorem rt_contrr_f : ruleT false ⟨#[99, 111, 110, 116, 114, 45, 114]⟩ = some ⟨215, [], contrRR⟩ := by kernel_rfl
theorem rt_contrr_t : ruleT true ⟨#[99, 111, 110, 116, 114, 45, 114]⟩ = none := by kernel_rfl
theorem rt_orr1_f : ruleT false ⟨#[111, 114, 45, 114, 49]⟩ = none := by kernel_rfl
theorem rt_orr1_t : ruleT true ⟨#[111, 114, 45, 114, 49]⟩ = some ⟨235, [.iptr [.int .i64 (0 : Int)]], (sideR 0)⟩ := by kernel_rfl
theorem rt_orr2_f : ruleT false ⟨#[111, 114, 45, 114, 50]⟩ = none := by kernel_rfl
theorem rt_orr2_t : ruleT true ⟨#[111, 114, 45, 114, 50]⟩ = some ⟨235, [.iptr [.int .i64 (1 : Int)]], (sideR 1)⟩ := by kernel_rfl
theorem prem_is (u : Bool) (n : ByteArray) (f : Fm) (l r : List Fm) (a b : Fm) : (premM u n f l r a b).2.1 = (ruleT u n).isSome := by
 rcases name_or n with rfl | rfl | rfl | rfl | rfl | rfl | rfl | rfl | rfl | rfl | rfl | rfl | rfl | rfl | rfl | rfl | h
 ·cases u <;> simp [premM, rt_ax_f, rt_ax_t]
 ·cases u <;> simp [premM, rt_true_f, rt_true_t]
 ·cases u <;> simp [premM, rt_false_f, rt_false_t]
 ·cases u <;> simp [premM, rt_andl_f, rt_andl_t]
 ·cases u <;> simp [premM, rt_andr_f, rt_andr_t]
 ·cases u <;> simp [premM, rt_orl_f, rt_orl_t]
 ·cases u <;> simp [premM, rt_thenr_f, rt_thenr_t]
 ·cases u <;> simp [premM, rt_notr_f, rt_notr_t]
 ·cases u <;> simp [premM, rt_contrl_f, rt_contrl_t]
 ·cases u <;> simp [premM, rt_cut_f, rt_cut_t]
 ·cases u <;> simp [premM, rt_thenl_f, rt_thenl_t]
 ·cases u <;> simp [premM, rt_notl_f, rt_notl_t]
 ·cases u <;> simp [premM, rt_orr_f, rt_orr_t]
 ·cases u <;> simp [premM, rt_contrr_f, rt_contrr_t]
 ·cases u <;> simp [premM, rt_orr1_f, rt_orr1_t]
 ·cases u <;> simp [premM, rt_orr2_f, rt_orr2_t]
 ·rw [ruleT_none u h]
  obtain ⟨h0, h1, h2, h3, h4, h5, h6, h7, h8, h9, h10, h11, h12, h13, h14, h15⟩ := h
  simp [premM, h0, h1, h2, h3, h4, h5, h6, h7, h8, h9, h10, h11, h12, h13, h14, h15]
theorem prem_rule {u : Bool} {n : ByteArray} {e : Ent} (h : ruleT u n = some e) (f : Fm) (hA : Ar f) (l r : List Fm) : (premM u n f l r (f.kids.headD zF) (f.kids.getLastD zF)).2.2 = (e.R f l r).2 ∧ ((e.R f l r).2 = true → (premM u n f l r (f.kids.headD zF) (f.kids.getLastD zF)).1 = (e.R f l r).1) := by
 have k1 : ∀ k, k = 4 → f.kind = k → ∃ a, f.kids = [a] := fun k hk h => hA.one (by omega)
 have k2 : ∀ k, (k = 5 ∨ k = 6 ∨ k = 7) → f.kind = k → ∃ a b, f.kids = [a, b] := fun k hk h => hA.two (by omega)
 rcases name_or n with rfl | rfl | rfl | rfl | rfl | rfl | rfl | rfl | rfl | rfl | rfl | rfl | rfl | rfl | rfl | rfl | hn
 ·cases u
  ·rw [rt_ax_f] at h; cases h
   simp [premM, axR, hasR_eq, kindF]
  ·rw [rt_ax_t] at h; cases h
   simp [premM, axR, hasR_eq, kindF]
 ·cases u
  ·rw [rt_true_f] at h; cases h
   simp [premM, trueR, hasR_eq, kindF]
  ·rw [rt_true_t] at h; cases h
   simp [premM, trueR, hasR_eq, kindF]
 ·cases u
  ·rw [rt_false_f] at h; cases h
   simp [premM, falseR, hasR_eq, kindF]
  ·rw [rt_false_t] at h; cases h
   simp [premM, falseR, hasR_eq, kindF]
 ·cases u
  ·rw [rt_andl_f] at h; cases h
   by_cases hk : f.kind = 5
   ·obtain ⟨a, b, hks⟩ := k2 5 (by decide) hk
    cases hh : hasF l f <;> simp [premM, andLR, kindF, hasR_eq, hh, hk, hks, kid]
   ·simp [premM, andLR, kindF, hasR_eq, hk]
  ·rw [rt_andl_t] at h; cases h
   by_cases hk : f.kind = 5
   ·obtain ⟨a, b, hks⟩ := k2 5 (by decide) hk
    cases hh : hasF l f <;> simp [premM, andLR, kindF, hasR_eq, hh, hk, hks, kid]
   ·simp [premM, andLR, kindF, hasR_eq, hk]
 ·cases u
  ·rw [rt_andr_f] at h; cases h
   by_cases hk : f.kind = 5
   ·obtain ⟨a, b, hks⟩ := k2 5 (by decide) hk
    cases hh : hasF r f <;> simp [premM, andRR, kindF, hasR_eq, hh, hk, hks, kid]
   ·simp [premM, andRR, kindF, hasR_eq, hk]
  ·rw [rt_andr_t] at h; cases h
   by_cases hk : f.kind = 5
   ·obtain ⟨a, b, hks⟩ := k2 5 (by decide) hk
    cases hh : hasF r f <;> simp [premM, andRR, kindF, hasR_eq, hh, hk, hks, kid]
   ·simp [premM, andRR, kindF, hasR_eq, hk]
 ·cases u
  ·rw [rt_orl_f] at h; cases h
   by_cases hk : f.kind = 6
   ·obtain ⟨a, b, hks⟩ := k2 6 (by decide) hk
    cases hh : hasF l f <;> simp [premM, orLR, kindF, hasR_eq, hh, hk, hks, kid]
   ·simp [premM, orLR, kindF, hasR_eq, hk]
  ·rw [rt_orl_t] at h; cases h
   by_cases hk : f.kind = 6
   ·obtain ⟨a, b, hks⟩ := k2 6 (by decide) hk
    cases hh : hasF l f <;> simp [premM, orLR, kindF, hasR_eq, hh, hk, hks, kid]
   ·simp [premM, orLR, kindF, hasR_eq, hk]
 ·cases u
  ·rw [rt_thenr_f] at h; cases h
   by_cases hk : f.kind = 7
   ·obtain ⟨a, b, hks⟩ := k2 7 (by decide) hk
    cases hh : hasF r f <;> simp [premM, thenRR, kindF, hasR_eq, hh, hk, hks, kid]
   ·simp [premM, thenRR, kindF, hasR_eq, hk]
  ·rw [rt_thenr_t] at h; cases h
   by_cases hk : f.kind = 7
   ·obtain ⟨a, b, hks⟩ := k2 7 (by decide) hk
    cases hh : hasF r f <;> simp [premM, thenRR, kindF, hasR_eq, hh, hk, hks, kid]
   ·simp [premM, thenRR, kindF, hasR_eq, hk]
 ·cases u
  ·rw [rt_notr_f] at h; cases h
   by_cases hk : f.kind = 4
   ·obtain ⟨a, hks⟩ := k1 4 (by decide) hk
    cases hh : hasF r f <;> simp [premM, notRR, kindF, hasR_eq, hh, hk, hks, kid]
   ·simp [premM, notRR, kindF, hasR_eq, hk]
  ·rw [rt_notr_t] at h; cases h
   by_cases hk : f.kind = 4
   ·obtain ⟨a, hks⟩ := k1 4 (by decide) hk
    cases hh : hasF r f <;> simp [premM, notRR, kindF, hasR_eq, hh, hk, hks, kid]
   ·simp [premM, notRR, kindF, hasR_eq, hk]
 ·cases u
  ·rw [rt_contrl_f] at h; cases h
   cases hh : hasF l f <;> simp [premM, contrLR, hasR_eq, hh]
  ·rw [rt_contrl_t] at h; cases h
   cases hh : hasF l f <;> simp [premM, contrLR, hasR_eq, hh]
 ·cases u
  ·rw [rt_cut_f] at h; cases h
   simp [premM, cutCR]
  ·rw [rt_cut_t] at h; cases h
   simp [premM, cutIR]
 ·cases u
  ·rw [rt_thenl_f] at h; cases h
   by_cases hk : f.kind = 7
   ·obtain ⟨a, b, hks⟩ := k2 7 (by decide) hk
    cases hh : hasF l f <;> simp [premM, thenLR, kindF, hasR_eq, hh, hk, hks, kid]
   ·simp [premM, thenLR, kindF, hasR_eq, hk]
  ·rw [rt_thenl_t] at h; cases h
   by_cases hk : f.kind = 7
   ·obtain ⟨a, b, hks⟩ := k2 7 (by decide) hk
    cases hh : hasF l f <;> simp [premM, thenIR, kindF, hasR_eq, hh, hk, hks, kid]
   ·simp [premM, thenIR, kindF, hasR_eq, hk]
 ·cases u
  ·rw [rt_notl_f] at h; cases h
   by_cases hk : f.kind = 4
   ·obtain ⟨a, hks⟩ := k1 4 (by decide) hk
    cases hh : hasF l f <;> simp [premM, notLR, kindF, hasR_eq, hh, hk, hks, kid]
   ·simp [premM, notLR, kindF, hasR_eq, hk]
  ·rw [rt_notl_t] at h; cases h
   by_cases hk : f.kind = 4
   ·obtain ⟨a, hks⟩ := k1 4 (by decide) hk
    cases hh : hasF l f <;> simp [premM, notIR, kindF, hasR_eq, hh, hk, hks, kid]
   ·simp [premM, notIR, kindF, hasR_eq, hk]
 ·cases u
  ·rw [rt_orr_f] at h; cases h
   by_cases hk : f.kind = 6
   ·obtain ⟨a, b, hks⟩ := k2 6 (by decide) hk
    cases hh : hasF r f <;> simp [premM, orRR, kindF, hasR_eq, hh, hk, hks, kid]
   ·simp [premM, orRR, kindF, hasR_eq, hk]
  ·rw [rt_orr_t] at h; cases h
 ·cases u
  ·rw [rt_contrr_f] at h; cases h
   cases hh : hasF r f <;> simp [premM, contrRR, hasR_eq, hh]
  ·rw [rt_contrr_t] at h; cases h
 ·cases u
  ·rw [rt_orr1_f] at h; cases h
  ·rw [rt_orr1_t] at h; cases h
   by_cases hk : f.kind = 6
   ·obtain ⟨a, b, hks⟩ := k2 6 (by decide) hk
    cases hh : hasF r f <;> simp [premM, sideR, kindF, hasR_eq, hh, hk, hks, kid]
   ·simp [premM, sideR, kindF, hasR_eq, hk]
 ·cases u
  ·rw [rt_orr2_f] at h; cases h
  ·rw [rt_orr2_t] at h; cases h
   by_cases hk : f.kind = 6
   ·obtain ⟨a, b, hks⟩ := k2 6 (by decide) hk
    cases hh : hasF r f <;> simp [premM, sideR, kindF, hasR_eq, hh, hk, hks, kid]
   ·simp [premM, sideR, kindF, hasR_eq, hk]
 ·rw [ruleT_none u hn] at h; cases h
end Go.Proofs.Ytkadceiolddmhaa
namespace Go.Proofs.Ytkadceiolddmhaa
open Go Go.Pv
def x127_T1 : XC := .seq (.reg [⟨some 55,.build 33 #[],none⟩,⟨none,.store 33 (.tmp 2) (.tmp 55),none⟩]) .ret
def x127_L0 : XC := .seq (.seq (.reg [⟨some 15,.move (.tmp 3),none⟩,⟨some 16,.fieldAddr 61 (.tmp 1) 0,none⟩,⟨some 17,.load 57 (.tmp 16),none⟩,⟨some 18,.call ⟨.builtin .len,#[.tmp 17],#[57]⟩,none⟩,⟨some 19,.fieldAddr 61 (.tmp 1) 1,none⟩,⟨some 20,.load 57 (.tmp 19),none⟩,⟨some 21,.call ⟨.builtin .len,#[.tmp 20],#[57]⟩,none⟩,⟨some 22,.binOp .add 3 (.tmp 18) (.tmp 21) 3,none⟩,⟨some 23,.binOp .lss 3 (.tmp 15) (.tmp 22) 3,none⟩]) (.cond (.tmp 23) .skip (.exit 0))) (.seq (.block 1 (.seq (.reg [⟨some 4,.alloc 59,none⟩]) (.seq (.seq (.reg [⟨some 26,.move (.tmp 3),none⟩,⟨some 27,.fieldAddr 61 (.tmp 1) 0,none⟩,⟨some 28,.load 57 (.tmp 27),none⟩,⟨some 29,.call ⟨.builtin .len,#[.tmp 28],#[57]⟩,none⟩,⟨some 30,.binOp .lss 3 (.tmp 26) (.tmp 29) 3,none⟩]) (.cond (.tmp 30) (.reg [⟨some 31,.fieldAddr 61 (.tmp 1) 0,none⟩,⟨some 32,.load 57 (.tmp 31),none⟩,⟨some 33,.move (.tmp 3),none⟩,⟨some 34,.indexAddr 57 (.tmp 32) (.tmp 33),none⟩,⟨some 35,.load 59 (.tmp 34),none⟩,⟨none,.store 59 (.tmp 4) (.tmp 35),none⟩]) (.reg [⟨some 36,.fieldAddr 61 (.tmp 1) 1,none⟩,⟨some 37,.load 57 (.tmp 36),none⟩,⟨some 38,.move (.tmp 3),none⟩,⟨some 39,.fieldAddr 61 (.tmp 1) 0,none⟩,⟨some 40,.load 57 (.tmp 39),none⟩,⟨some 41,.call ⟨.builtin .len,#[.tmp 40],#[57]⟩,none⟩,⟨some 42,.binOp .sub 3 (.tmp 38) (.tmp 41) 3,none⟩,⟨some 43,.indexAddr 57 (.tmp 37) (.tmp 42),none⟩,⟨some 44,.load 59 (.tmp 43),none⟩,⟨none,.store 59 (.tmp 4) (.tmp 44),none⟩]))) (.seq (.reg [⟨some 45,.load 59 (.tmp 4),none⟩,⟨some 46,.buildSlice 57 1 #[(0,.tmp 45)],none⟩,⟨some 47,.call ⟨.value (.func 130),#[.tmp 46],#[57]⟩,none⟩,⟨some 5,.alloc 33,none⟩,⟨none,.store 33 (.tmp 5) (.tmp 47),none⟩]) (.seq (.reg [⟨some 48,.fieldAddr 33 (.tmp 5) 0,none⟩,⟨some 49,.load 3 (.tmp 48),none⟩,⟨some 50,.binOp .neq 3 (.tmp 49) (.const (.int .i64 0)) 3,none⟩]) (.cond (.tmp 50) (.seq (.reg [⟨some 51,.fieldAddr 33 (.tmp 5) 0,none⟩,⟨some 52,.load 3 (.tmp 51),none⟩,⟨some 53,.move (.tmp 3),none⟩,⟨some 54,.call ⟨.value (.func 56),#[.tmp 52,.tmp 53],#[3,3]⟩,none⟩,⟨none,.store 33 (.tmp 2) (.tmp 54),none⟩]) .ret) .skip)))))) (.reg [⟨some 24,.move (.tmp 3),none⟩,⟨some 25,.binOp .add 3 (.tmp 24) (.const (.int .i64 1)) 3,none⟩,⟨some 3,.assign (.tmp 25),none⟩]))
def x127 : XC := .seq (.reg [⟨some 1,.box 61 (.tmp 0),none⟩,⟨some 2,.alloc 33,none⟩]) (.seq (.seq (.reg [⟨some 6,.fieldAddr 61 (.tmp 1) 0,none⟩,⟨some 7,.load 57 (.tmp 6),none⟩,⟨some 8,.call ⟨.builtin .len,#[.tmp 7],#[57]⟩,none⟩,⟨some 9,.fieldAddr 61 (.tmp 1) 1,none⟩,⟨some 10,.load 57 (.tmp 9),none⟩,⟨some 11,.call ⟨.builtin .len,#[.tmp 10],#[57]⟩,none⟩,⟨some 12,.binOp .add 3 (.tmp 8) (.tmp 11) 3,none⟩,⟨some 13,.binOp .gtr 3 (.tmp 12) (.const (.int .i64 60)) 3,none⟩]) (.cond (.tmp 13) (.seq (.reg [⟨some 14,.call ⟨.value (.func 56),#[.const (.int .i64 2),.const (.int .i64 0)],#[3,3]⟩,none⟩,⟨none,.store 33 (.tmp 2) (.tmp 14),none⟩]) .ret) .skip)) (.seq (.seq (.reg [⟨some 3,.assign (.const (.int .i64 0)),none⟩]) (.bloop 0 x127_L0)) (x127_T1)))
@[simp] theorem x127_s {C e s K} : type_of% (@X_at C e s K _ _ x127_T1.eq_1) ∧ type_of% (@X_at C e s K _ _ x127_L0.eq_1) ∧ type_of% (@X_at C e s K _ _ x127.eq_1) := ⟨X_at x127_T1.eq_1, X_at x127_L0.eq_1, X_at x127.eq_1⟩
def an127 : Ann := ⟨[], [(0, [], [1, 2, 3], [2])], []⟩
@[simp] theorem an127_a : an127.loopOf 0 = ([], [1, 2, 3], [2]) := rfl
theorem fi127 : FI Try.prog 127 (cxA an127) x127 [.cell 2 33] Try.f127 := fiA Try.func127 mixed
theorem SequentFault_ref (l r : List Fm) (hl : l.length ≤ 50000) (hr : r.length ≤ 50000) : CallOK Try.prog 127 [.agg [.list (l.map frm), .list (r.map frm)]] [] (.agg [.int .i64 (sequentF l r).1, .int .i64 (sequentF l r).2]) [] := by
 refine fi127.op ?_
 unfold sequentF
 by_cases h6 : 60 < l.length + r.length
 ·have h6i : (60 : Int) < (l.length : Int) + (r.length : Int) := by omega
  rw [if_pos h6]
  ((refine Sg.h ?_); try repeat' ((first | (with_reducible first | refine brA ?_ | refine brE fun _ => ?_ | (refine spl ⟨?_, ?_⟩ <;> intro _)) | refine clo (F_ref 2 0) ?_) <;> ((try simp -implicitDefEqProofs [h6i]); (try simp -implicitDefEqProofs (disch := first | assumption | (try simp only [lens]); omega -splitDisjunctions) [h6i]))))
 ·have h6i : ¬ (60 : Int) < (l.length : Int) + (r.length : Int) := by omega
  rw [if_neg h6]
  generalize hE : seqGo (l ++ r) 0 = E
  ((refine Sg.h ?_); try repeat' ((first | (with_reducible first | refine brA ?_ | refine brE fun _ => ?_ | (refine spl ⟨?_, ?_⟩ <;> intro _))) <;> ((try simp -implicitDefEqProofs [h6i]); (try simp -implicitDefEqProofs (disch := first | assumption | (try simp only [lens]); omega -splitDisjunctions) [h6i]))))
  refine W_of fun Q hQ => ?_
  have main : ∀ n i, i + n = l.length + r.length → seqGo ((l ++ r).drop i) i = E → Q [(1, .ptr 0 0 0), (2, .ptr 1 0 0), (3, .int .i64 (i : Int))] [.rows 2 [[.list (l.map frm), .list (r.map frm)]], .rows 2 [[.int .i64 0, .int .i64 0]]] := by
   intro n
   induction n with
   | zero =>
    intro i hi he
    rw [List.drop_of_length_le (by simp; omega), seqGo] at he
    have hii : ¬ (i : Int) < (l.length : Int) + (r.length : Int) := by omega
    apply hQ
    clear hQ
    subst he
    ((refine Sg.h ?_); try repeat' ((first | (with_reducible first | refine brA ?_ | refine brE fun _ => ?_ | (refine spl ⟨?_, ?_⟩ <;> intro _))) <;> ((try simp -implicitDefEqProofs [hii]); (try simp -implicitDefEqProofs (disch := first | assumption | (try simp only [lens]); omega -splitDisjunctions) [hii]))))
   | succ n ih =>
    intro i hi he
    have hil : i < (l ++ r).length := by simp; omega
    have hii : (i : Int) < (l.length : Int) + (r.length : Int) := by omega
    have ih := ih (i + 1) (by omega)
    rw [List.drop_eq_getElem_cons hil, seqGo] at he
    have hp := PlainFault_ref [(l ++ r)[i]] (by simp)
    rw [plainL_sgl] at hp
    have hf := F_ref (plainF (l ++ r)[i]).1 (i : Int)
    apply hQ
    clear hQ
    by_cases hlt : i < l.length
    ·rw [List.getElem_append_left hlt] at *
     by_cases h0 : (plainF l[i]).1 = 0
     ·rw [if_neg (by simpa using h0)] at he hp
      have ih := ih he
      ((refine Sg.h ?_); try repeat' ((first | (with_reducible first | refine brA ?_ | refine brE fun _ => ?_ | (refine spl ⟨?_, ?_⟩ <;> intro _))) <;> ((try simp -implicitDefEqProofs [hii, hlt]); (try simp -implicitDefEqProofs (disch := first | assumption | (try simp only [lens]); omega -splitDisjunctions) [hii, hlt]))))
      refine CL.giv [3] ?_
      ((refine Sg.h ?_); try repeat' ((first | (with_reducible first | refine brA ?_ | refine brE fun _ => ?_ | (refine spl ⟨?_, ?_⟩ <;> intro _)) | refine clo hp ?_) <;> ((try simp -implicitDefEqProofs); (try simp -implicitDefEqProofs (disch := first | assumption | (try simp only [lens]); omega -splitDisjunctions)))))
      all_goals first | exact ih | (refine at2 ih ?_ ?_ <;> simp; done) | (exfalso; first | omega | (simp_all; done) | (simp_all; omega))
     ·rw [if_pos (by simpa using h0)] at he hp
      subst he
      generalize plainF l[i] = P at *
      ((refine Sg.h ?_); try repeat' ((first | (with_reducible first | refine brA ?_ | refine brE fun _ => ?_ | (refine spl ⟨?_, ?_⟩ <;> intro _))) <;> ((try simp -implicitDefEqProofs [hii, hlt]); (try simp -implicitDefEqProofs (disch := first | assumption | (try simp only [lens]); omega -splitDisjunctions) [hii, hlt]))))
      refine CL.giv [3] ?_
      ((refine Sg.h ?_); try repeat' ((first | (with_reducible first | refine brA ?_ | refine brE fun _ => ?_ | (refine spl ⟨?_, ?_⟩ <;> intro _)) | refine clo hp ?_ | refine clo hf ?_) <;> ((try simp -implicitDefEqProofs [h0]); (try simp -implicitDefEqProofs (disch := first | assumption | (try simp only [lens]); omega -splitDisjunctions) [h0]))))
    ·have hr2 : i - l.length < r.length := by simp at hil; omega
     have hlti : ¬ (i : Int) < (l.length : Int) := by omega
     have hsub : (i : Int) - (l.length : Int) = ((i - l.length : Nat) : Int) := by omega
     rw [List.getElem_append_right (by omega)] at *
     by_cases h0 : (plainF r[i - l.length]).1 = 0
     ·rw [if_neg (by simpa using h0)] at he hp
      have ih := ih he
      ((refine Sg.h ?_); try repeat' ((first | (with_reducible first | refine brA ?_ | refine brE fun _ => ?_ | (refine spl ⟨?_, ?_⟩ <;> intro _))) <;> ((try simp -implicitDefEqProofs [hii, hlti, hsub, hr2]); (try simp -implicitDefEqProofs (disch := first | assumption | (try simp only [lens]); omega -splitDisjunctions) [hii, hlti, hsub, hr2]))))
      refine CL.giv [3] ?_
      ((refine Sg.h ?_); try repeat' ((first | (with_reducible first | refine brA ?_ | refine brE fun _ => ?_ | (refine spl ⟨?_, ?_⟩ <;> intro _)) | refine clo hp ?_) <;> ((try simp -implicitDefEqProofs); (try simp -implicitDefEqProofs (disch := first | assumption | (try simp only [lens]); omega -splitDisjunctions)))))
      all_goals first | exact ih | (refine at2 ih ?_ ?_ <;> simp; done) | (exfalso; first | omega | (simp_all; done) | (simp_all; omega))
     ·rw [if_pos (by simpa using h0)] at he hp
      subst he
      generalize plainF r[i - l.length] = P at *
      ((refine Sg.h ?_); try repeat' ((first | (with_reducible first | refine brA ?_ | refine brE fun _ => ?_ | (refine spl ⟨?_, ?_⟩ <;> intro _))) <;> ((try simp -implicitDefEqProofs [hii, hlti, hsub, hr2]); (try simp -implicitDefEqProofs (disch := first | assumption | (try simp only [lens]); omega -splitDisjunctions) [hii, hlti, hsub, hr2]))))
      refine CL.giv [3] ?_
      ((refine Sg.h ?_); try repeat' ((first | (with_reducible first | refine brA ?_ | refine brE fun _ => ?_ | (refine spl ⟨?_, ?_⟩ <;> intro _)) | refine clo hp ?_ | refine clo hf ?_) <;> ((try simp -implicitDefEqProofs [h0]); (try simp -implicitDefEqProofs (disch := first | assumption | (try simp only [lens]); omega -splitDisjunctions) [h0]))))
  all_goals first | exact main _ 0 (Nat.zero_add _) (by simpa using hE) | (refine at2 main _ 0 (Nat.zero_add _) (by simpa using hE) ?_ ?_ <;> simp; done) | (exfalso; first | omega | (simp_all; done) | (simp_all; omega))
end Go.Proofs.Ytkadceiolddmhaa
