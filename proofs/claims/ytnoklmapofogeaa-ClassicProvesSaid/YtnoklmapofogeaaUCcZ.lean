import Derived.Test.YtnoklmapofogeaaUCdB
import Derived.Test.YtnoklmapofogeaaUCcW
import Derived.Test.YtnoklmapofogeaaUCcJ
import Derived.Test.YtnoklmapofogeaaUCcA
import Derived.Test.YtnoklmapofogeaaUCcV
set_option linter.unusedVariables false
set_option linter.unusedSimpArgs false
set_option maxRecDepth 100000
set_option maxHeartbeats 4000000
namespace Go.Proofs.Ytnoklmapofogeaa
open Go Go.Pv
theorem name_or (n : ByteArray) : n = ⟨#[97, 120]⟩ ∨ n = ⟨#[116, 114, 117, 101]⟩ ∨ n = ⟨#[102, 97, 108, 115, 101]⟩ ∨ n = ⟨#[97, 110, 100, 45, 108]⟩ ∨ n = ⟨#[97, 110, 100, 45, 114]⟩ ∨ n = ⟨#[111, 114, 45, 108]⟩ ∨ n = ⟨#[116, 104, 101, 110, 45, 114]⟩ ∨ n = ⟨#[110, 111, 116, 45, 114]⟩ ∨ n = ⟨#[99, 111, 110, 116, 114, 45, 108]⟩ ∨ n = ⟨#[99, 117, 116]⟩ ∨ n = ⟨#[116, 104, 101, 110, 45, 108]⟩ ∨ n = ⟨#[110, 111, 116, 45, 108]⟩ ∨ n = ⟨#[111, 114, 45, 114]⟩ ∨ n = ⟨#[99, 111, 110, 116, 114, 45, 114]⟩ ∨ n = ⟨#[111, 114, 45, 114, 49]⟩ ∨ n = ⟨#[111, 114, 45, 114, 50]⟩ ∨ (n ≠ ⟨#[97, 120]⟩ ∧ n ≠ ⟨#[116, 114, 117, 101]⟩ ∧ n ≠ ⟨#[102, 97, 108, 115, 101]⟩ ∧ n ≠ ⟨#[97, 110, 100, 45, 108]⟩ ∧ n ≠ ⟨#[97, 110, 100, 45, 114]⟩ ∧ n ≠ ⟨#[111, 114, 45, 108]⟩ ∧ n ≠ ⟨#[116, 104, 101, 110, 45, 114]⟩ ∧ n ≠ ⟨#[110, 111, 116, 45, 114]⟩ ∧ n ≠ ⟨#[99, 111, 110, 116, 114, 45, 108]⟩ ∧ n ≠ ⟨#[99, 117, 116]⟩ ∧ n ≠ ⟨#[116, 104, 101, 110, 45, 108]⟩ ∧ n ≠ ⟨#[110, 111, 116, 45, 108]⟩ ∧ n ≠ ⟨#[111, 114, 45, 114]⟩ ∧ n ≠ ⟨#[99, 111, 110, 116, 114, 45, 114]⟩ ∧ n ≠ ⟨#[111, 114, 45, 114, 49]⟩ ∧ n ≠ ⟨#[111, 114, 45, 114, 50]⟩) := by
 by_cases h0 : n = ⟨#[97, 120]⟩
 ·exact .inl h0
 refine .inr ?_
 by_cases h1 : n = ⟨#[116, 114, 117, 101]⟩
 ·exact .inl h1
 refine .inr ?_
 by_cases h2 : n = ⟨#[102, 97, 108, 115, 101]⟩
 ·exact .inl h2
 refine .inr ?_
 by_cases h3 : n = ⟨#[97, 110, 100, 45, 108]⟩
 ·exact .inl h3
 refine .inr ?_
 by_cases h4 : n = ⟨#[97, 110, 100, 45, 114]⟩
 ·exact .inl h4
 refine .inr ?_
 by_cases h5 : n = ⟨#[111, 114, 45, 108]⟩
 ·exact .inl h5
 refine .inr ?_
 by_cases h6 : n = ⟨#[116, 104, 101, 110, 45, 114]⟩
 ·exact .inl h6
 refine .inr ?_
 by_cases h7 : n = ⟨#[110, 111, 116, 45, 114]⟩
 ·exact .inl h7
 refine .inr ?_
 by_cases h8 : n = ⟨#[99, 111, 110, 116, 114, 45, 108]⟩
 ·exact .inl h8
 refine .inr ?_
 by_cases h9 : n = ⟨#[99, 117, 116]⟩
 ·exact .inl h9
 refine .inr ?_
 by_cases h10 : n = ⟨#[116, 104, 101, 110, 45, 108]⟩
 ·exact .inl h10
 refine .inr ?_
 by_cases h11 : n = ⟨#[110, 111, 116, 45, 108]⟩
 ·exact .inl h11
 refine .inr ?_
 by_cases h12 : n = ⟨#[111, 114, 45, 114]⟩
 ·exact .inl h12
 refine .inr ?_
 by_cases h13 : n = ⟨#[99, 111, 110, 116, 114, 45, 114]⟩
 ·exact .inl h13
 refine .inr ?_
 by_cases h14 : n = ⟨#[111, 114, 45, 114, 49]⟩
 ·exact .inl h14
 refine .inr ?_
 by_cases h15 : n = ⟨#[111, 114, 45, 114, 50]⟩
 ·exact .inl h15
 refine .inr ?_
 exact ⟨h0, h1, h2, h3, h4, h5, h6, h7, h8, h9, h10, h11, h12, h13, h14, h15⟩
theorem hasR_eq (l : List Fm) (f : Fm) : hasR l f = hasF l f := by
 unfold hasR
 rw [Bool.eq_iff_iff, List.any_eq_true, hasF_iff]
 constructor
 ·rintro ⟨y, hy, h⟩; rwa [← sameB_iff.1 h]
 ·exact fun h => ⟨f, h, sameB_iff.2 rfl⟩
theorem ruleT_none (u : Bool) {n : ByteArray} (h : n ≠ ⟨#[97, 120]⟩ ∧ n ≠ ⟨#[116, 114, 117, 101]⟩ ∧ n ≠ ⟨#[102, 97, 108, 115, 101]⟩ ∧ n ≠ ⟨#[97, 110, 100, 45, 108]⟩ ∧ n ≠ ⟨#[97, 110, 100, 45, 114]⟩ ∧ n ≠ ⟨#[111, 114, 45, 108]⟩ ∧ n ≠ ⟨#[116, 104, 101, 110, 45, 114]⟩ ∧ n ≠ ⟨#[110, 111, 116, 45, 114]⟩ ∧ n ≠ ⟨#[99, 111, 110, 116, 114, 45, 108]⟩ ∧ n ≠ ⟨#[99, 117, 116]⟩ ∧ n ≠ ⟨#[116, 104, 101, 110, 45, 108]⟩ ∧ n ≠ ⟨#[110, 111, 116, 45, 108]⟩ ∧ n ≠ ⟨#[111, 114, 45, 114]⟩ ∧ n ≠ ⟨#[99, 111, 110, 116, 114, 45, 114]⟩ ∧ n ≠ ⟨#[111, 114, 45, 114, 49]⟩ ∧ n ≠ ⟨#[111, 114, 45, 114, 50]⟩) : ruleT u n = none := by
 obtain ⟨h0, h1, h2, h3, h4, h5, h6, h7, h8, h9, h10, h11, h12, h13, h14, h15⟩ := h
 unfold ruleT lookT
 cases u <;> simp [sharedT, classT, intuT, h0, h1, h2, h3, h4, h5, h6, h7, h8, h9, h10, h11, h12, h13, h14, h15]
theorem rt_ax_f : ruleT false ⟨#[97, 120]⟩ = some ⟨145, [], axR⟩ := by kernel_rfl
theorem rt_ax_t : ruleT true ⟨#[97, 120]⟩ = some ⟨145, [], axR⟩ := by kernel_rfl
theorem rt_true_f : ruleT false ⟨#[116, 114, 117, 101]⟩ = some ⟨146, [], trueR⟩ := by kernel_rfl
theorem rt_true_t : ruleT true ⟨#[116, 114, 117, 101]⟩ = some ⟨146, [], trueR⟩ := by kernel_rfl
theorem rt_false_f : ruleT false ⟨#[102, 97, 108, 115, 101]⟩ = some ⟨148, [], falseR⟩ := by kernel_rfl
theorem rt_false_t : ruleT true ⟨#[102, 97, 108, 115, 101]⟩ = some ⟨148, [], falseR⟩ := by kernel_rfl
theorem rt_andl_f : ruleT false ⟨#[97, 110, 100, 45, 108]⟩ = some ⟨149, [], andLR⟩ := by kernel_rfl
theorem rt_andl_t : ruleT true ⟨#[97, 110, 100, 45, 108]⟩ = some ⟨149, [], andLR⟩ := by kernel_rfl
theorem rt_andr_f : ruleT false ⟨#[97, 110, 100, 45, 114]⟩ = some ⟨151, [], andRR⟩ := by kernel_rfl
theorem rt_andr_t : ruleT true ⟨#[97, 110, 100, 45, 114]⟩ = some ⟨151, [], andRR⟩ := by kernel_rfl
theorem rt_orl_f : ruleT false ⟨#[111, 114, 45, 108]⟩ = some ⟨152, [], orLR⟩ := by kernel_rfl
theorem rt_orl_t : ruleT true ⟨#[111, 114, 45, 108]⟩ = some ⟨152, [], orLR⟩ := by kernel_rfl
theorem rt_thenr_f : ruleT false ⟨#[116, 104, 101, 110, 45, 114]⟩ = some ⟨153, [], thenRR⟩ := by kernel_rfl
theorem rt_thenr_t : ruleT true ⟨#[116, 104, 101, 110, 45, 114]⟩ = some ⟨153, [], thenRR⟩ := by kernel_rfl
theorem rt_notr_f : ruleT false ⟨#[110, 111, 116, 45, 114]⟩ = some ⟨154, [], notRR⟩ := by kernel_rfl
theorem rt_notr_t : ruleT true ⟨#[110, 111, 116, 45, 114]⟩ = some ⟨154, [], notRR⟩ := by kernel_rfl
theorem rt_contrl_f : ruleT false ⟨#[99, 111, 110, 116, 114, 45, 108]⟩ = some ⟨155, [], contrLR⟩ := by kernel_rfl
theorem rt_contrl_t : ruleT true ⟨#[99, 111, 110, 116, 114, 45, 108]⟩ = some ⟨155, [], contrLR⟩ := by kernel_rfl
theorem rt_cut_f : ruleT false ⟨#[99, 117, 116]⟩ = some ⟨160, [], cutCR⟩ := by kernel_rfl
theorem rt_cut_t : ruleT true ⟨#[99, 117, 116]⟩ = some ⟨164, [], cutIR⟩ := by kernel_rfl
theorem rt_thenl_f : ruleT false ⟨#[116, 104, 101, 110, 45, 108]⟩ = some ⟨157, [], thenLR⟩ := by kernel_rfl
theorem rt_thenl_t : ruleT true ⟨#[116, 104, 101, 110, 45, 108]⟩ = some ⟨162, [], thenIR⟩ := by kernel_rfl
theorem rt_notl_f : ruleT false ⟨#[110, 111, 116, 45, 108]⟩ = some ⟨158, [], notLR⟩ := by kernel_rfl
theorem rt_notl_t : ruleT true ⟨#[110, 111, 116, 45, 108]⟩ = some ⟨163, [], notIR⟩ := by kernel_rfl
theorem rt_orr_f : ruleT false ⟨#[111, 114, 45, 114]⟩ = some ⟨156, [], orRR⟩ := by kernel_rfl
theorem rt_orr_t : ruleT true ⟨#[111, 114, 45, 114]⟩ = none := by kernel_rfl
theorem rt_contrr_f : ruleT false ⟨#[99, 111, 110, 116, 114, 45, 114]⟩ = some ⟨159, [], contrRR⟩ := by kernel_rfl
theorem rt_contrr_t : ruleT true ⟨#[99, 111, 110, 116, 114, 45, 114]⟩ = none := by kernel_rfl
theorem rt_orr1_f : ruleT false ⟨#[111, 114, 45, 114, 49]⟩ = none := by kernel_rfl
theorem rt_orr1_t : ruleT true ⟨#[111, 114, 45, 114, 49]⟩ = some ⟨178, [.iptr [.int .i64 (0 : Int)]], (sideR 0)⟩ := by kernel_rfl
theorem rt_orr2_f : ruleT false ⟨#[111, 114, 45, 114, 50]⟩ = none := by kernel_rfl
theorem rt_orr2_t : ruleT true ⟨#[111, 114, 45, 114, 50]⟩ = some ⟨178, [.iptr [.int .i64 (1 : Int)]], (sideR 1)⟩ := by kernel_rfl
theorem prem_is (u : Bool) (n : ByteArray) (f : Fm) (l r : List Fm) (a b : Fm) : (premM u n f l r a b).2.1 = (ruleT u n).isSome := by
 rcases name_or n with rfl | rfl | rfl | rfl | rfl | rfl | rfl | rfl | rfl | rfl | rfl | rfl | rfl | rfl | rfl | rfl | h
 ·cases u <;> simp [premM, rt_ax_f, rt_ax_t]
 ·cases u <;> simp [premM, rt_true_f, rt_true_t]
 ·cases u <;> simp [premM, rt_false_f, rt_false_t]
 ·cases u <;> simp [premM, rt_andl_f, rt_andl_t]
 ·cases u <;> simp [premM, rt_andr_f, rt_andr_t]
 ·cases u <;> simp [premM, rt_orl_f, rt_orl_t]
 ·cases u <;> simp [premM, rt_thenr_f, rt_thenr_t]
 ·cases u <;> simp [premM, rt_notr_f, rt_notr_t]
 ·cases u <;> simp [premM, rt_contrl_f, rt_contrl_t]
 ·cases u <;> simp [premM, rt_cut_f, rt_cut_t]
 ·cases u <;> simp [premM, rt_thenl_f, rt_thenl_t]
 ·cases u <;> simp [premM, rt_notl_f, rt_notl_t]
 ·cases u <;> simp [premM, rt_orr_f, rt_orr_t]
 ·cases u <;> simp [premM, rt_contrr_f, rt_contrr_t]
 ·cases u <;> simp [premM, rt_orr1_f, rt_orr1_t]
 ·cases u <;> simp [premM, rt_orr2_f, rt_orr2_t]
 ·rw [ruleT_none u h]
  obtain ⟨h0, h1, h2, h3, h4, h5, h6, h7, h8, h9, h10, h11, h12, h13, h14, h15⟩ := h
  simp [premM, h0, h1, h2, h3, h4, h5, h6, h7, h8, h9, h10, h11, h12, h13, h14, h15]
theorem prem_rule {u : Bool} {n : ByteArray} {e : Ent} (h : ruleT u n = some e) (f : Fm) (hA : Ar f) (l r : List Fm) : (premM u n f l r (f.kids.headD zF) (f.kids.getLastD zF)).2.2 = (e.R f l r).2 ∧ ((e.R f l r).2 = true → (premM u n f l r (f.kids.headD zF) (f.kids.getLastD zF)).1 = (e.R f l r).1) := by
 have k1 : ∀ k, k = 4 → f.kind = k → ∃ a, f.kids = [a] := fun k hk h => hA.one (by omega)
 have k2 : ∀ k, (k = 5 ∨ k = 6 ∨ k = 7) → f.kind = k → ∃ a b, f.kids = [a, b] := fun k hk h => hA.two (by omega)
 rcases name_or n with rfl | rfl | rfl | rfl | rfl | rfl | rfl | rfl | rfl | rfl | rfl | rfl | rfl | rfl | rfl | rfl | hn
 ·cases u
  ·rw [rt_ax_f] at h; cases h
   simp [premM, axR, hasR_eq, kindF]
  ·rw [rt_ax_t] at h; cases h
   simp [premM, axR, hasR_eq, kindF]
 ·cases u
  ·rw [rt_true_f] at h; cases h
   simp [premM, trueR, hasR_eq, kindF]
  ·rw [rt_true_t] at h; cases h
   simp [premM, trueR, hasR_eq, kindF]
 ·cases u
  ·rw [rt_false_f] at h; cases h
   simp [premM, falseR, hasR_eq, kindF]
  ·rw [rt_false_t] at h; cases h
   simp [premM, falseR, hasR_eq, kindF]
 ·cases u
  ·rw [rt_andl_f] at h; cases h
   by_cases hk : f.kind = 5
   ·obtain ⟨a, b, hks⟩ := k2 5 (by decide) hk
    cases hh : hasF l f <;> simp [premM, andLR, kindF, hasR_eq, hh, hk, hks, kid]
   ·simp [premM, andLR, kindF, hasR_eq, hk]
  ·rw [rt_andl_t] at h; cases h
   by_cases hk : f.kind = 5
   ·obtain ⟨a, b, hks⟩ := k2 5 (by decide) hk
    cases hh : hasF l f <;> simp [premM, andLR, kindF, hasR_eq, hh, hk, hks, kid]
   ·simp [premM, andLR, kindF, hasR_eq, hk]
 ·cases u
  ·rw [rt_andr_f] at h; cases h
   by_cases hk : f.kind = 5
   ·obtain ⟨a, b, hks⟩ := k2 5 (by decide) hk
    cases hh : hasF r f <;> simp [premM, andRR, kindF, hasR_eq, hh, hk, hks, kid]
   ·simp [premM, andRR, kindF, hasR_eq, hk]
  ·rw [rt_andr_t] at h; cases h
   by_cases hk : f.kind = 5
   ·obtain ⟨a, b, hks⟩ := k2 5 (by decide) hk
    cases hh : hasF r f <;> simp [premM, andRR, kindF, hasR_eq, hh, hk, hks, kid]
   ·simp [premM, andRR, kindF, hasR_eq, hk]
 ·cases u
  ·rw [rt_orl_f] at h; cases h
   by_cases hk : f.kind = 6
   ·obtain ⟨a, b, hks⟩ := k2 6 (by decide) hk
    cases hh : hasF l f <;> simp [premM, orLR, kindF, hasR_eq, hh, hk, hks, kid]
   ·simp [premM, orLR, kindF, hasR_eq, hk]
  ·rw [rt_orl_t] at h; cases h
   by_cases hk : f.kind = 6
   ·obtain ⟨a, b, hks⟩ := k2 6 (by decide) hk
    cases hh : hasF l f <;> simp [premM, orLR, kindF, hasR_eq, hh, hk, hks, kid]
   ·simp [premM, orLR, kindF, hasR_eq, hk]
 ·cases u
  ·rw [rt_thenr_f] at h; cases h
   by_cases hk : f.kind = 7
   ·obtain ⟨a, b, hks⟩ := k2 7 (by decide) hk
    cases hh : hasF r f <;> simp [premM, thenRR, kindF, hasR_eq, hh, hk, hks, kid]
   ·simp [premM, thenRR, kindF, hasR_eq, hk]
  ·rw [rt_thenr_t] at h; cases h
   by_cases hk : f.kind = 7
   ·obtain ⟨a, b, hks⟩ := k2 7 (by decide) hk
    cases hh : hasF r f <;> simp [premM, thenRR, kindF, hasR_eq, hh, hk, hks, kid]
   ·simp [premM, thenRR, kindF, hasR_eq, hk]
 ·cases u
  ·rw [rt_notr_f] at h; cases h
   by_cases hk : f.kind = 4
   ·obtain ⟨a, hks⟩ := k1 4 (by decide) hk
    cases hh : hasF r f <;> simp [premM, notRR, kindF, hasR_eq, hh, hk, hks, kid]
   ·simp [premM, notRR, kindF, hasR_eq, hk]
  ·rw [rt_notr_t] at h; cases h
   by_cases hk : f.kind = 4
   ·obtain ⟨a, hks⟩ := k1 4 (by decide) hk
    cases hh : hasF r f <;> simp [premM, notRR, kindF, hasR_eq, hh, hk, hks, kid]
   ·simp [premM, notRR, kindF, hasR_eq, hk]
 ·cases u
  ·rw [rt_contrl_f] at h; cases h
   cases hh : hasF l f <;> simp [premM, contrLR, hasR_eq, hh]
  ·rw [rt_contrl_t] at h; cases h
   cases hh : hasF l f <;> simp [premM, contrLR, hasR_eq, hh]
 ·cases u
  ·rw [rt_cut_f] at h; cases h
   simp [premM, cutCR]
  ·rw [rt_cut_t] at h; cases h
   simp [premM, cutIR]
 ·cases u
  ·rw [rt_thenl_f] at h; cases h
   by_cases hk : f.kind = 7
   ·obtain ⟨a, b, hks⟩ := k2 7 (by decide) hk
    cases hh : hasF l f <;> simp [premM, thenLR, kindF, hasR_eq, hh, hk, hks, kid]
   ·simp [premM, thenLR, kindF, hasR_eq, hk]
  ·rw [rt_thenl_t] at h; cases h
   by_cases hk : f.kind = 7
   ·obtain ⟨a, b, hks⟩ := k2 7 (by decide) hk
    cases hh : hasF l f <;> simp [premM, thenIR, kindF, hasR_eq, hh, hk, hks, kid]
   ·simp [premM, thenIR, kindF, hasR_eq, hk]
 ·cases u
  ·rw [rt_notl_f] at h; cases h
   by_cases hk : f.kind = 4
   ·obtain ⟨a, hks⟩ := k1 4 (by decide) hk
    cases hh : hasF l f <;> simp [premM, notLR, kindF, hasR_eq, hh, hk, hks, kid]
   ·simp [premM, notLR, kindF, hasR_eq, hk]
  ·rw [rt_notl_t] at h; cases h
   by_cases hk : f.kind = 4
   ·obtain ⟨a, hks⟩ := k1 4 (by decide) hk
    cases hh : hasF l f <;> simp [premM, notIR, kindF, hasR_eq, hh, hk, hks, kid]
   ·simp [premM, notIR, kindF, hasR_eq, hk]
 ·cases u
  ·rw [rt_orr_f] at h; cases h
   by_cases hk : f.kind = 6
   ·obtain ⟨a, b, hks⟩ := k2 6 (by decide) hk
    cases hh : hasF r f <;> simp [premM, orRR, kindF, hasR_eq, hh, hk, hks, kid]
   ·simp [premM, orRR, kindF, hasR_eq, hk]
  ·rw [rt_orr_t] at h; cases h
 ·cases u
  ·rw [rt_contrr_f] at h; cases h
   cases hh : hasF r f <;> simp [premM, contrRR, hasR_eq, hh]
  ·rw [rt_contrr_t] at h; cases h
 ·cases u
  ·rw [rt_orr1_f] at h; cases h
  ·rw [rt_orr1_t] at h; cases h
   by_cases hk : f.kind = 6
   ·obtain ⟨a, b, hks⟩ := k2 6 (by decide) hk
    cases hh : hasF r f <;> simp [premM, sideR, kindF, hasR_eq, hh, hk, hks, kid]
   ·simp [premM, sideR, kindF, hasR_eq, hk]
 ·cases u
  ·rw [rt_orr2_f] at h; cases h
  ·rw [rt_orr2_t] at h; cases h
   by_cases hk : f.kind = 6
   ·obtain ⟨a, b, hks⟩ := k2 6 (by decide) hk
    cases hh : hasF r f <;> simp [premM, sideR, kindF, hasR_eq, hh, hk, hks, kid]
   ·simp [premM, sideR, kindF, hasR_eq, hk]
 ·rw [ruleT_none u hn] at h; cases h
end Go.Proofs.Ytnoklmapofogeaa
namespace Go.Proofs.Ytnoklmapofogeaa
open Go Go.Pv
def pF : Fm := .mk 1 ⟨#[112]⟩ []
def x72 : XC := .seq (.reg [⟨some 2,.alloc 24,none⟩]) (.seq (.reg [⟨some 3,.move (.tmp 0),none⟩,⟨some 4,.build 24 #[(0,.const (.int .i64 1)),(1,.tmp 3)],none⟩,⟨none,.store 24 (.tmp 2) (.tmp 4),none⟩]) .ret)
@[simp] theorem x72_s {C e s K} : type_of% (@X_at C e s K _ _ x72.eq_1) := X_at x72.eq_1
def an72 : Ann := ⟨[], [], []⟩
theorem fi72 : FI Try.prog 72 (cxA an72) x72 [.cell 2 24] Try.f72 := fiA Try.func72 mixed
theorem named_p : CallOK Try.prog 72 [.str ⟨#[112]⟩] [] (.agg (frm pF)) [] := by
 refine fi72.os ?_
 ((refine Sg.h ?_); try repeat' ((first | (with_reducible first | refine brA ?_ | refine brE fun _ => ?_ | (refine spl ⟨?_, ?_⟩ <;> intro _))) <;> ((try simp -implicitDefEqProofs); (try simp -implicitDefEqProofs (disch := first | assumption | (try simp only [lens]); omega -splitDisjunctions)))))
 rw [frm_eq]; rfl
def x73 : XC := .seq (.reg [⟨some 4,.box 24 (.tmp 1),none⟩,⟨some 5,.box 24 (.tmp 2),none⟩,⟨some 6,.alloc 24,none⟩]) (.seq (.reg [⟨some 7,.move (.tmp 0),none⟩,⟨some 8,.load 24 (.tmp 4),none⟩,⟨some 9,.load 24 (.tmp 5),none⟩,⟨some 10,.buildSlice 22 2 #[(0,.tmp 8),(1,.tmp 9)],none⟩,⟨some 11,.build 24 #[(0,.tmp 7),(2,.tmp 10)],none⟩,⟨none,.store 24 (.tmp 6) (.tmp 11),none⟩]) .ret)
@[simp] theorem x73_s {C e s K} : type_of% (@X_at C e s K _ _ x73.eq_1) := X_at x73.eq_1
def an73 : Ann := ⟨[], [], []⟩
theorem fi73 : FI Try.prog 73 (cxA an73) x73 [.cell 6 24] Try.f73 := fiA Try.func73 mixed
theorem step_ok {u : Bool} {p : Pf} {e : Ent} {qs : List Prem} (hw : p.rule ≠ ⟨#[119, 101, 97, 107]⟩) (h : ruleT u p.rule = some e) (hp : (plainF p.f).1 = 0) (hb : e.R p.f p.l p.r = (qs, true)) (hl : p.kids.length = qs.length) (hm : meetB qs p.kids = true) : stepF u p = 0 := by
 unfold stepF
 rw [if_neg hw, h]
 dsimp only
 rw [hb, if_neg (by simpa using hp), if_neg (by simp), if_neg (by simpa using hl), if_pos hm]
theorem hasF_of {l : List Fm} {f : Fm} (h : f ∈ l) : hasF l f = true := hasF_iff.2 h
theorem same_self (l : List Fm) : sameF l l = true := by
 unfold sameF
 have : ∀ l : List Fm, withinF l l = true := by
  intro l
  induction l with
  | nil => rfl
  | cons a r ih => rw [withinF, hasF_of List.mem_cons_self, List.erase_cons_head, ih]; rfl
 rw [this]; simp
end Go.Proofs.Ytnoklmapofogeaa
namespace Go.Proofs.Ytnoklmapofogeaa
open Go Go.Pv
def x57_T1 : XC := .seq (.reg [⟨some 19,.move (.tmp 3),none⟩,⟨some 2,.assign (.tmp 19),none⟩]) .ret
def x57_L0 : XC := .seq (.seq (.reg [⟨some 5,.move (.tmp 4),none⟩,⟨some 6,.move (.tmp 0),none⟩,⟨some 7,.call ⟨.builtin .len,#[.tmp 6],#[22]⟩,none⟩,⟨some 8,.binOp .lss 3 (.tmp 5) (.tmp 7) 3,none⟩]) (.cond (.tmp 8) .skip (.exit 0))) (.seq (.block 1 (.reg [⟨some 11,.move (.tmp 3),none⟩,⟨some 12,.move (.tmp 0),none⟩,⟨some 13,.move (.tmp 4),none⟩,⟨some 14,.indexAddr 22 (.tmp 12) (.tmp 13),none⟩,⟨some 15,.load 24 (.tmp 14),none⟩,⟨some 16,.call ⟨.value (.func 35),#[.tmp 15],#[24]⟩,none⟩,⟨some 17,.buildSlice 22 1 #[(0,.tmp 16)],none⟩,⟨some 18,.call ⟨.builtin .append,#[.tmp 11,.tmp 17],#[22,22]⟩,none⟩,⟨some 3,.assign (.tmp 18),none⟩])) (.reg [⟨some 9,.move (.tmp 4),none⟩,⟨some 10,.binOp .add 3 (.tmp 9) (.const (.int .i64 1)) 3,none⟩,⟨some 4,.assign (.tmp 10),none⟩]))
def x57 : XC := .seq (.reg [⟨some 2,.assign (.const (.slice none 0 0)),none⟩]) (.seq (.reg [⟨some 3,.assign (.const (.slice none 0 0)),none⟩]) (.seq (.seq (.reg [⟨some 4,.assign (.const (.int .i64 0)),none⟩]) (.bloop 0 x57_L0)) (x57_T1)))
@[simp] theorem x57_s {C e s K} : type_of% (@X_at C e s K _ _ x57_T1.eq_1) ∧ type_of% (@X_at C e s K _ _ x57_L0.eq_1) ∧ type_of% (@X_at C e s K _ _ x57.eq_1) := ⟨X_at x57_T1.eq_1, X_at x57_L0.eq_1, X_at x57.eq_1⟩
def an57 : Ann := ⟨[], [(0, [(3, none, 3)], [0, 3, 4], [3])], []⟩
@[simp] theorem an57_a : an57.loopOf 0 = ([(3, none, 3)], [0, 3, 4], [3]) := rfl
theorem fi57 : FI Try.prog 57 (cxA an57) x57 [.tmp 2] Try.f57 := fiA Try.func57 mixed
theorem ownList_own (l : List Fm) (hl : l.length ≤ 1000000) (hv : ∀ f ∈ l, vastB f 0 = false) : CallOK Try.prog 57 [.list (l.map frm)] [] (.sl 0 0 l.length) [.rows 3 (l.map frm)] := by
 refine fi57.og ?_
 ((refine Sg.h ?_); try repeat' ((first | (with_reducible first | refine brA ?_ | refine brE fun _ => ?_ | (refine spl ⟨?_, ?_⟩ <;> intro _))) <;> ((try simp -implicitDefEqProofs); (try simp -implicitDefEqProofs (disch := first | assumption | (try simp only [lens]); omega -splitDisjunctions)))))
 refine W_of fun Q hQ => ?_
 have main : ∀ r i, i + r = l.length → Q [(0, .list (l.map frm)), (3, .sl 0 0 (l.take i).length), (4, .int .i64 (i : Int))] [.rows 3 ((l.take i).map frm)] := by
  intro r
  induction r with
  | zero =>
   intro i hi
   obtain rfl : i = l.length := by omega
   rw [List.take_length]
   apply hQ
   clear hQ
   ((refine Sg.h ?_); try repeat' ((first | (with_reducible first | refine brA ?_ | refine brE fun _ => ?_ | (refine spl ⟨?_, ?_⟩ <;> intro _))) <;> ((try simp -implicitDefEqProofs); (try simp -implicitDefEqProofs (disch := first | assumption | (try simp only [lens]); omega -splitDisjunctions)))))
  | succ r ih =>
   intro i hi
   have hil : i < l.length := by omega
   have ih := ih (i + 1) (by omega)
   have ho := own_law l[i] 0 (hv _ (List.getElem_mem hil))
   have hlen : (l.take i).length = i := by rw [List.length_take]; omega
   rw [take_snoc hil] at ih
   generalize l.take i = T at *
   apply hQ
   clear hQ
   ((refine Sg.h ?_); try repeat' ((first | (with_reducible first | refine brA ?_ | refine brE fun _ => ?_ | (refine spl ⟨?_, ?_⟩ <;> intro _)) | refine clo ho ?_) <;> ((try simp -implicitDefEqProofs [hil]); (try simp -implicitDefEqProofs (disch := first | assumption | (try simp only [lens]); omega -splitDisjunctions) [hil]))))
   all_goals first | exact ih | (refine at2 ih ?_ ?_ <;> simp; done) | (exfalso; first | omega | (simp_all; done) | (simp_all; omega))
 refine at2 (main _ 0 (Nat.zero_add _)) ?_ ?_ <;> simp
theorem ownList_law (l : List Fm) (hl : l.length ≤ 1000000) (hv : ∀ f ∈ l, vastB f 0 = false) : CallOK Try.prog 57 [.list (l.map frm)] [] (.list (l.map frm)) [] := callOK_done (ownList_own l hl hv) (by simp)
theorem vastP_all {p : Pf} {d : Int} (h : vastP p d = false) : p.kids.length ≤ 1200 ∧ p.l.length ≤ 300 ∧ p.r.length ≤ 300 ∧ vastB p.f 0 = false ∧ (∀ f ∈ p.l, vastB f 0 = false) ∧ (∀ f ∈ p.r, vastB f 0 = false) ∧ ∀ k ∈ p.kids, vastP k (d + 1) = false := by
 rw [vastP_eq] at h
 simp only [Bool.or_eq_false_iff, decide_eq_false_iff_not] at h
 obtain ⟨h1, h2, h3, h4, h5, h6, h7, h8⟩ := h
 have key : ∀ l : List Fm, vastsB l 0 = false → ∀ f ∈ l, vastB f 0 = false := by
  intro l
  induction l with
  | nil => intro _ f hf; cases hf
  | cons a r ih =>
   intro h f hf
   rw [vastsB, Bool.or_eq_false_iff] at h
   rcases List.mem_cons.1 hf with rfl | hf
   ·exact h.1
   ·exact ih h.2 f hf
 exact ⟨by omega, by omega, by omega, h5, key _ h6, key _ h7, vastPs_mem h8⟩
theorem preDs_snoc (l : List Pf) (q : Pf) (d : Int) : preDs (l ++ [q]) d = preDs l d ++ preD q d := by
 rw [preDs_eq, preDs_eq, List.flatMap_append]; simp
def depRow (x : Pf × Int) : List PV := [.int .i64 x.2]
def stpRow (x : Pf × Int) : List PV := prf x.1
@[simp] theorem stpRow_eq (x : Pf × Int) : stpRow x = prf x.1 := rfl
@[simp] theorem depRow_eq (x : Pf × Int) : depRow x = [.int .i64 x.2] := rfl
instance : FlatRow stpRow := ⟨fun x => prf_flat x.1⟩
instance : FlatRow depRow := ⟨fun x => rfl⟩
def x23_T1 : XC := .seq (.reg [⟨some 55,.move (.tmp 8),none⟩,⟨some 56,.move (.tmp 9),none⟩,⟨some 6,.assign (.tmp 55),none⟩,⟨some 7,.assign (.tmp 56),none⟩]) .ret
def x23_L0 : XC := .seq (.seq (.reg [⟨some 17,.move (.tmp 10),none⟩,⟨some 18,.fieldAddr 29 (.tmp 3) 3,none⟩,⟨some 19,.load 27 (.tmp 18),none⟩,⟨some 20,.call ⟨.builtin .len,#[.tmp 19],#[27]⟩,none⟩,⟨some 21,.binOp .lss 3 (.tmp 17) (.tmp 20) 3,none⟩,⟨some 22,.move (.tmp 21),none⟩,⟨some 23,.move (.tmp 8),some (some 22,true)⟩,⟨some 24,.call ⟨.builtin .len,#[.tmp 23],#[27]⟩,some (some 22,true)⟩,⟨some 25,.move (.tmp 2),some (some 22,true)⟩,⟨some 26,.binOp .leq 3 (.tmp 24) (.tmp 25) 3,some (some 22,true)⟩,⟨some 27,.pick (.tmp 22) (.tmp 26) (.const (.bool false)),none⟩,⟨some 28,.move (.tmp 27),none⟩,⟨some 29,.move (.tmp 1),some (some 28,true)⟩,⟨some 30,.binOp .lss 3 (.tmp 29) (.const (.int .i64 402)) 3,some (some 28,true)⟩,⟨some 31,.pick (.tmp 28) (.tmp 30) (.const (.bool false)),none⟩]) (.cond (.tmp 31) .skip (.exit 0))) (.seq (.block 1 (.seq (.reg [⟨some 35,.fieldAddr 29 (.tmp 3) 3,none⟩,⟨some 36,.load 27 (.tmp 35),none⟩,⟨some 37,.move (.tmp 10),none⟩,⟨some 38,.indexAddr 27 (.tmp 36) (.tmp 37),none⟩,⟨some 39,.load 29 (.tmp 38),none⟩,⟨some 40,.move (.tmp 1),none⟩,⟨some 41,.binOp .add 3 (.tmp 40) (.const (.int .i64 1)) 3,none⟩,⟨some 42,.move (.tmp 2),none⟩,⟨some 43,.move (.tmp 8),none⟩,⟨some 44,.call ⟨.builtin .len,#[.tmp 43],#[27]⟩,none⟩,⟨some 45,.binOp .sub 3 (.tmp 42) (.tmp 44) 3,none⟩,⟨some 46,.call ⟨.value (.func 23),#[.tmp 39,.tmp 41,.tmp 45],#[29,3,3]⟩,none⟩,⟨some 34,.move (.tmp 46),none⟩,⟨some 47,.extract (.tmp 34) 0,none⟩,⟨some 48,.extract (.tmp 34) 1,none⟩,⟨some 11,.assign (.tmp 47),none⟩,⟨some 12,.assign (.tmp 48),none⟩]) (.seq (.reg [⟨some 49,.move (.tmp 8),none⟩,⟨some 50,.move (.tmp 11),none⟩,⟨some 51,.call ⟨.builtin .append,#[.tmp 49,.tmp 50],#[27,27]⟩,none⟩,⟨some 8,.assign (.tmp 51),none⟩]) (.reg [⟨some 52,.move (.tmp 9),none⟩,⟨some 53,.move (.tmp 12),none⟩,⟨some 54,.call ⟨.builtin .append,#[.tmp 52,.tmp 53],#[43,43]⟩,none⟩,⟨some 9,.assign (.tmp 54),none⟩])))) (.reg [⟨some 32,.move (.tmp 10),none⟩,⟨some 33,.binOp .add 3 (.tmp 32) (.const (.int .i64 1)) 3,none⟩,⟨some 10,.assign (.tmp 33),none⟩]))
def x23 : XC := .seq (.reg [⟨some 3,.box 29 (.tmp 0),none⟩,⟨some 6,.assign (.const (.slice none 0 0)),none⟩,⟨some 7,.assign (.const (.slice none 0 0)),none⟩]) (.seq (.reg [⟨some 13,.load 29 (.tmp 3),none⟩,⟨some 14,.buildSlice 27 1 #[(0,.tmp 13)],none⟩,⟨some 8,.assign (.tmp 14),none⟩]) (.seq (.reg [⟨some 15,.move (.tmp 1),none⟩,⟨some 16,.buildSlice 43 1 #[(0,.tmp 15)],none⟩,⟨some 9,.assign (.tmp 16),none⟩]) (.seq (.seq (.reg [⟨some 10,.assign (.const (.int .i64 0)),none⟩]) (.bloop 0 x23_L0)) (x23_T1))))
@[simp] theorem x23_s {C e s K} : type_of% (@X_at C e s K _ _ x23_T1.eq_1) ∧ type_of% (@X_at C e s K _ _ x23_L0.eq_1) ∧ type_of% (@X_at C e s K _ _ x23.eq_1) := ⟨X_at x23_T1.eq_1, X_at x23_L0.eq_1, X_at x23.eq_1⟩
def an23 : Ann := ⟨[], [(0, [(8, none, 7), (9, none, 1)], [1, 2, 3, 8, 9, 10], [8, 9])], []⟩
@[simp] theorem an23_a : an23.loopOf 0 = ([(8, none, 7), (9, none, 1)], [1, 2, 3, 8, 9, 10], [8, 9]) := rfl
theorem fi23 : FI Try.prog 23 (cxA an23) x23 [.tmp 6, .tmp 7] Try.f23 := fiA Try.func23 mixed
theorem Steps_ref (p : Pf) (hp : Szs p) : ∀ (d : Int) (m : Nat), 1 ≤ d → d ≤ 402 → m ≤ 20001 → CallOK Try.prog 23 [.agg (prf p), .int .i64 d, .int .i64 (m : Int)] [] (.tuple [.list (((preD p d).take (m + 1)).map stpRow), .list (((preD p d).take (m + 1)).map depRow)]) [] := by
 induction p using Pf.ind with
 | h p ih =>
  intro d m hd0 hd hm
  have hkl := hp.len
  refine fi23.op ?_
  rw [preD_eq, List.take_succ_cons]
  generalize hR : (p, d) :: (if d < 402 then preDs p.kids (d + 1) else []).take m = R
  ((refine Sg.h ?_); try repeat' ((first | (with_reducible first | refine brA ?_ | refine brE fun _ => ?_ | (refine spl ⟨?_, ?_⟩ <;> intro _))) <;> ((try simp -implicitDefEqProofs); (try simp -implicitDefEqProofs (disch := first | assumption | (try simp only [lens]); omega -splitDisjunctions)))))
  refine W_of fun Q hQ => ?_
  by_cases hd2 : d < 402
  ·rw [if_pos hd2] at hR
   have main : ∀ r i (A : List (Pf × Int)), i + r = p.kids.length → A = preDs (p.kids.take i) (d + 1) → Q [(1, .int .i64 d), (2, .int .i64 (m : Int)), (3, .ptr 0 0 0), (8, .sl 1 0 ((p, d) :: A.take m).length), (9, .sl 2 0 ((p, d) :: A.take m).length), (10, .int .i64 (i : Int))] [.rows 7 [prf p], .rows 7 (((p, d) :: A.take m).map stpRow), .rows 1 (((p, d) :: A.take m).map depRow)] := by
    intro r
    induction r with
    | zero =>
     intro i A hi hA
     obtain rfl : i = p.kids.length := by omega
     rw [List.take_length] at hA
     rw [← hA] at hR
     rw [hR]
     apply hQ
     clear hQ
     ((refine Sg.h ?_); try repeat' ((first | (with_reducible first | refine brA ?_ | refine brE fun _ => ?_ | (refine spl ⟨?_, ?_⟩ <;> intro _))) <;> ((try simp -implicitDefEqProofs); (try simp -implicitDefEqProofs (disch := first | assumption | (try simp only [lens]); omega -splitDisjunctions)))))
    | succ r ihr =>
     intro i A hi hA
     have hil : i < p.kids.length := by omega
     have hl : ((p, d) :: A.take m).length = 1 + min m A.length := by rw [List.length_cons, List.length_take]; omega
     by_cases hm2 : A.length < m
     ·have hc := ih p.kids[i] (List.getElem_mem hil) (hp.kid (List.getElem_mem hil)) (d + 1) (m - 1 - A.length) (by omega) (by omega) (by omega)
      have ihr := ihr (i + 1) (A ++ preD p.kids[i] (d + 1)) (by omega) (by rw [take_snoc hil, preDs_snoc, hA])
      rw [List.take_append] at ihr
      rw [show m - 1 - A.length + 1 = m - A.length from by omega] at hc
      have hle : (((p, d) :: A.take m).length : Int) ≤ (m : Int) := by omega
      have hsub : (m : Int) - (((p, d) :: A.take m).length : Int) = ((m - 1 - A.length : Nat) : Int) := by omega
      rw [← hsub] at hc
      rw [← List.cons_append] at ihr
      have hll : ((preD p.kids[i] (d + 1)).take (m - A.length)).length ≤ 20001 := by rw [List.length_take]; omega
      generalize (preD p.kids[i] (d + 1)).take (m - A.length) = B at *
      generalize (p, d) :: A.take m = L at *
      clear hR hA hl
      apply hQ
      clear hQ
      ((refine Sg.h ?_); try repeat' ((first | (with_reducible first | refine brA ?_ | refine brE fun _ => ?_ | (refine spl ⟨?_, ?_⟩ <;> intro _)) | refine clo hc ?_) <;> ((try simp -implicitDefEqProofs [hil, hle, hd2]); (try simp -implicitDefEqProofs (disch := first | assumption | (try simp only [lens]); omega -splitDisjunctions) [hil, hle, hd2]))))
      refine ⟨⟨by rintro _ x y _ rfl; simp, by omega⟩, ⟨by rintro _ x y _ rfl; simp, by omega⟩, ?_⟩
      all_goals first | exact ihr | (refine at2 ihr ?_ ?_ <;> simp; done) | (exfalso; first | omega | (simp_all; done) | (simp_all; omega))
     ·have hle : ¬ (((p, d) :: A.take m).length : Int) ≤ (m : Int) := by omega
      have he : (p, d) :: A.take m = R := by
       rw [← hR]
       congr 1
       have : preDs p.kids (d + 1) = A ++ preDs (p.kids.drop i) (d + 1) := by
        rw [hA, preDs_eq, preDs_eq, preDs_eq, ← List.flatMap_append, List.take_append_drop]
       rw [this, List.take_append_of_le_length (by omega)]
      rw [he] at hle ⊢
      apply hQ
      clear hQ
      ((refine Sg.h ?_); try repeat' ((first | (with_reducible first | refine brA ?_ | refine brE fun _ => ?_ | (refine spl ⟨?_, ?_⟩ <;> intro _))) <;> ((try simp -implicitDefEqProofs [hil, hle]); (try simp -implicitDefEqProofs (disch := first | assumption | (try simp only [lens]); omega -splitDisjunctions) [hil, hle]))))
   have m0 := main _ 0 [] (Nat.zero_add _) rfl
   all_goals first | exact m0 | (refine at2 m0 ?_ ?_ <;> simp; done) | (exfalso; first | omega | (simp_all; done) | (simp_all; omega))
  ·rw [if_neg hd2] at hR
   subst hR
   apply hQ
   clear hQ
   ((refine Sg.h ?_); try repeat' ((first | (with_reducible first | refine brA ?_ | refine brE fun _ => ?_ | (refine spl ⟨?_, ?_⟩ <;> intro _))) <;> ((try simp -implicitDefEqProofs [hd2]); (try simp -implicitDefEqProofs (disch := first | assumption | (try simp only [lens]); omega -splitDisjunctions) [hd2]))))
end Go.Proofs.Ytnoklmapofogeaa
namespace Go.Proofs.Ytnoklmapofogeaa
open Go Go.Pv
theorem seqGo_of : ∀ {l : List Fm} {i : Nat}, (∀ f ∈ l, (plainF f).1 = 0) → (seqGo l i).1 = 0
 | [], _, _ => rfl
 | a :: r, i, h => by
  rw [seqGo, if_neg (by simpa using h a (.head _))]
  exact seqGo_of fun f hf => h f (.tail _ hf)
theorem sequent_of {l r : List Fm} (h : l.length + r.length ≤ 60) (hl : ∀ f ∈ l, (plainF f).1 = 0) (hr : ∀ f ∈ r, (plainF f).1 = 0) : (sequentF l r).1 = 0 := by
 unfold sequentF
 rw [if_neg (by omega)]
 exact seqGo_of fun f hf => (List.mem_append.1 hf).elim (hl f) (hr f)
end Go.Proofs.Ytnoklmapofogeaa
