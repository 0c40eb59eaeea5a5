import Derived.Test.YtnoklmapofogeaaUCdD
import Derived.Test.YtnoklmapofogeaaUCcZ
import Derived.Test.YtnoklmapofogeaaUCcU
set_option linter.unusedVariables false
set_option linter.unusedSimpArgs false
set_option maxRecDepth 100000
set_option maxHeartbeats 4000000
namespace Go.Proofs.Ytnoklmapofogeaa
open Go Go.Pv
theorem preD_szs (p : Pf) : ∀ d, Szs p → ∀ x ∈ preD p d, Szs x.1 := by
 induction p using Pf.ind with
 | h p ih =>
  intro d hp x hx
  rw [preD_eq] at hx
  rcases List.mem_cons.1 hx with rfl | hx
  ·exact hp
  ·split at hx
   ·rw [preDs_eq] at hx
    obtain ⟨k, hk, hx⟩ := List.mem_flatMap.1 hx
    exact ih k hk _ (hp.kid hk) x hx
   ·cases hx
def x29_T1 : XC := .seq (.reg [⟨some 41,.build 33 #[],none⟩,⟨none,.store 33 (.tmp 4) (.tmp 41),none⟩]) .ret
def x29_L0 : XC := .seq (.seq (.reg [⟨some 14,.move (.tmp 7),none⟩,⟨some 15,.move (.tmp 5),none⟩,⟨some 16,.call ⟨.builtin .len,#[.tmp 15],#[27]⟩,none⟩,⟨some 17,.binOp .lss 3 (.tmp 14) (.tmp 16) 3,none⟩]) (.cond (.tmp 17) .skip (.exit 0))) (.seq (.block 1 (.seq (.seq (.reg [⟨some 20,.move (.tmp 7),none⟩,⟨some 21,.binOp .eql 3 (.tmp 20) (.const (.int .i64 20000)) 3,none⟩,⟨some 22,.move (.tmp 21),none⟩,⟨some 23,.move (.tmp 6),some (some 22,false)⟩,⟨some 24,.move (.tmp 7),some (some 22,false)⟩,⟨some 25,.indexAddr 43 (.tmp 23) (.tmp 24),some (some 22,false)⟩,⟨some 26,.load 3 (.tmp 25),some (some 22,false)⟩,⟨some 27,.binOp .gtr 3 (.tmp 26) (.const (.int .i64 400)) 3,some (some 22,false)⟩,⟨some 28,.pick (.tmp 22) (.const (.bool true)) (.tmp 27),none⟩]) (.cond (.tmp 28) (.seq (.reg [⟨some 29,.call ⟨.value (.func 38),#[.const (.int .i64 2),.const (.int .i64 0)],#[3,3]⟩,none⟩,⟨none,.store 33 (.tmp 4) (.tmp 29),none⟩]) .ret) .skip)) (.seq (.reg [⟨some 30,.move (.tmp 5),none⟩,⟨some 31,.move (.tmp 7),none⟩,⟨some 32,.indexAddr 27 (.tmp 30) (.tmp 31),none⟩,⟨some 33,.load 29 (.tmp 32),none⟩,⟨some 34,.move (.tmp 1),none⟩,⟨some 35,.call ⟨.value (.func 67),#[.tmp 33,.tmp 34],#[29,4]⟩,none⟩,⟨some 8,.assign (.tmp 35),none⟩]) (.seq (.reg [⟨some 36,.move (.tmp 8),none⟩,⟨some 37,.binOp .neq 3 (.tmp 36) (.const (.int .i64 0)) 3,none⟩]) (.cond (.tmp 37) (.seq (.reg [⟨some 38,.move (.tmp 8),none⟩,⟨some 39,.move (.tmp 7),none⟩,⟨some 40,.call ⟨.value (.func 38),#[.tmp 38,.tmp 39],#[3,3]⟩,none⟩,⟨none,.store 33 (.tmp 4) (.tmp 40),none⟩]) .ret) .skip))))) (.reg [⟨some 18,.move (.tmp 7),none⟩,⟨some 19,.binOp .add 3 (.tmp 18) (.const (.int .i64 1)) 3,none⟩,⟨some 7,.assign (.tmp 19),none⟩]))
def x29 : XC := .seq (.reg [⟨some 2,.box 29 (.tmp 0),none⟩,⟨some 4,.alloc 33,none⟩]) (.seq (.reg [⟨some 10,.load 29 (.tmp 2),none⟩,⟨some 11,.call ⟨.value (.func 23),#[.tmp 10,.const (.int .i64 1),.const (.int .i64 20001)],#[29,3,3]⟩,none⟩,⟨some 9,.move (.tmp 11),none⟩,⟨some 12,.extract (.tmp 9) 0,none⟩,⟨some 13,.extract (.tmp 9) 1,none⟩,⟨some 5,.assign (.tmp 12),none⟩,⟨some 6,.assign (.tmp 13),none⟩]) (.seq (.seq (.reg [⟨some 7,.assign (.const (.int .i64 0)),none⟩]) (.bloop 0 x29_L0)) (x29_T1)))
@[simp] theorem x29_s {C e s K} : type_of% (@X_at C e s K _ _ x29_T1.eq_1) ∧ type_of% (@X_at C e s K _ _ x29_L0.eq_1) ∧ type_of% (@X_at C e s K _ _ x29.eq_1) := ⟨X_at x29_T1.eq_1, X_at x29_L0.eq_1, X_at x29.eq_1⟩
def an29 : Ann := ⟨[], [(0, [], [1, 4, 5, 6, 7], [4])], []⟩
@[simp] theorem an29_a : an29.loopOf 0 = ([], [1, 4, 5, 6, 7], [4]) := rfl
theorem fi29 : FI Try.prog 29 (cxA an29) x29 [.cell 4 33] Try.f29 := fiA Try.func29 mixed
theorem ProofFault_ref (u : Bool) (p : Pf) (hp : Szs p) : CallOK Try.prog 29 [.agg (prf p), .bool u] [] (.agg [.int .i64 (checkF u p).1, .int .i64 (checkF u p).2]) [] := by
 have h1 := Steps_ref p hp 1 20001 (by decide) (by decide) (by decide)
 have hz : ∀ x ∈ (preD p 1).take 20002, Szs x.1 := fun x hx => preD_szs p 1 hp x (List.mem_of_mem_take hx)
 have hV : (scanF u ((preD p 1).take 20002) 0).2 = checkF u p := by rw [check_scan, scanF_take u _ 0 20002 (by decide) (by decide)]
 have hf := F_ref 2 0
 rw [show 20001 + 1 = 20002 from rfl] at h1
 have hl : ((preD p 1).take 20002).length ≤ 20002 := List.length_take_le _ _
 generalize checkF u p = V at *
 generalize (preD p 1).take 20002 = L at *
 refine fi29.op ?_
 ((refine Sg.h ?_); try repeat' ((first | (with_reducible first | refine brA ?_ | refine brE fun _ => ?_ | (refine spl ⟨?_, ?_⟩ <;> intro _)) | refine clo h1 ?_) <;> ((try simp -implicitDefEqProofs); (try simp -implicitDefEqProofs (disch := first | assumption | (try simp only [lens]); omega -splitDisjunctions)))))
 refine W_of fun Q hQ => ?_
 have main : ∀ n i, i + n = L.length → i ≤ 20000 → (scanF u (L.drop i) i).2 = V → Q [(1, .bool u), (4, .ptr 0 0 0), (5, .list (L.map stpRow)), (6, .list (L.map depRow)), (7, .int .i64 (i : Int))] [.rows 2 [[.int .i64 0, .int .i64 0]]] := by
  intro n
  induction n with
  | zero =>
   intro i hi hi2 he
   rw [List.drop_of_length_le (by omega), scanF] at he
   have hii : ¬ (i : Int) < (L.length : Int) := by omega
   apply hQ
   clear hQ
   subst he
   ((refine Sg.h ?_); try repeat' ((first | (with_reducible first | refine brA ?_ | refine brE fun _ => ?_ | (refine spl ⟨?_, ?_⟩ <;> intro _))) <;> ((try simp -implicitDefEqProofs [hii]); (try simp -implicitDefEqProofs (disch := first | assumption | (try simp only [lens]); omega -splitDisjunctions) [hii]))))
  | succ n ih =>
   intro i hi hi2 he
   have hil : i < L.length := by omega
   have ih := ih (i + 1) (by omega)
   have hzi := hz _ (List.getElem_mem hil)
   have hc := stepCode_ref u L[i].1 hzi.sz (fun k hk => (hzi.kid hk).sz)
   have hf2 := F_ref (codeF u L[i].1) (i : Int)
   rw [List.drop_eq_getElem_cons hil, scanF] at he
   apply hQ
   clear hQ
   by_cases h20 : i = 20000
   ·subst h20
    rw [if_pos (.inl (by omega))] at he
    subst he
    ((refine Sg.h ?_); try repeat' ((first | (with_reducible first | refine brA ?_ | refine brE fun _ => ?_ | (refine spl ⟨?_, ?_⟩ <;> intro _)) | refine clo hf ?_) <;> ((try simp -implicitDefEqProofs [hil]); (try simp -implicitDefEqProofs (disch := first | assumption | (try simp only [lens]); omega -splitDisjunctions) [hil]))))
   ·have h20i : ¬ (i : Int) = 20000 := by omega
    by_cases h4 : 400 < L[i].2
    ·rw [if_pos (.inr h4)] at he
     subst he
     ((refine Sg.h ?_); try repeat' ((first | (with_reducible first | refine brA ?_ | refine brE fun _ => ?_ | (refine spl ⟨?_, ?_⟩ <;> intro _)) | refine clo hf ?_) <;> ((try simp -implicitDefEqProofs [hil, h20i, h4]); (try simp -implicitDefEqProofs (disch := first | assumption | (try simp only [lens]); omega -splitDisjunctions) [hil, h20i, h4]))))
    ·rw [if_neg (by omega)] at he
     have e2 : (if (sequentF L[i].1.l L[i].1.r).1 ≠ 0 ∨ (u = true ∧ 1 < L[i].1.r.length) then (i + 1, (5, (i : Int))) else if stepF u L[i].1 ≠ 0 then (i + 1, (stepF u L[i].1, (i : Int))) else scanF u (L.drop (i + 1)) (i + 1)) = if codeF u L[i].1 ≠ 0 then (i + 1, (codeF u L[i].1, (i : Int))) else scanF u (L.drop (i + 1)) (i + 1) := by
      unfold codeF
      split <;> simp
     rw [e2] at he
     generalize codeF u L[i].1 = c at *
     by_cases h0 : c = 0
     ·rw [if_neg (by simpa using h0)] at he
      have ih := ih (by omega) he
      ((refine Sg.h ?_); try repeat' ((first | (with_reducible first | refine brA ?_ | refine brE fun _ => ?_ | (refine spl ⟨?_, ?_⟩ <;> intro _)) | refine clo hc ?_) <;> ((try simp -implicitDefEqProofs [hil, h20i, h4, h0]); (try simp -implicitDefEqProofs (disch := first | assumption | (try simp only [lens]); omega -splitDisjunctions) [hil, h20i, h4, h0]))))
      all_goals first | exact ih | (refine at2 ih ?_ ?_ <;> simp; done) | (exfalso; first | omega | (simp_all; done) | (simp_all; omega))
     ·rw [if_pos h0] at he
      subst he
      ((refine Sg.h ?_); try repeat' ((first | (with_reducible first | refine brA ?_ | refine brE fun _ => ?_ | (refine spl ⟨?_, ?_⟩ <;> intro _)) | refine clo hc ?_ | refine clo hf2 ?_) <;> ((try simp -implicitDefEqProofs [hil, h20i, h4, h0]); (try simp -implicitDefEqProofs (disch := first | assumption | (try simp only [lens]); omega -splitDisjunctions) [hil, h20i, h4, h0]))))
 have m0 := main _ 0 (Nat.zero_add _) (by decide) (by simpa using hV)
 all_goals first | exact m0 | (refine at2 m0 ?_ ?_ <;> simp; done) | (exfalso; first | omega | (simp_all; done) | (simp_all; omega))
def cutN (l : List Pf) : Nat := l.countP fun p => decide (p.rule = ⟨#[99, 117, 116]⟩)
theorem cutN_append (a b : List Pf) : cutN (a ++ b) = cutN a + cutN b := List.countP_append
theorem cutN_steps (p : Pf) : cutN (stepsP p) = cutsP p := by
 induction p using Pf.ind with
 | h p ih =>
  rw [cutsP_eq, stepsP_eq]
  have key : ∀ ks : List Pf, (∀ k ∈ ks, k ∈ p.kids) → cutN (ks.flatMap stepsP) = cutsL ks := by
   intro ks
   induction ks with
   | nil => intro _; rfl
   | cons k r ihr =>
    intro hm
    rw [List.flatMap_cons, cutN_append, ih k (hm k (.head _)), ihr fun k hk => hm k (.tail _ hk), cutsL]
  rw [← key _ fun k hk => hk, show cutN (p :: p.kids.flatMap stepsP) = cutN [p] + cutN (p.kids.flatMap stepsP) from cutN_append [p] _]
  congr 1
  unfold cutN
  rw [List.countP_cons, List.countP_nil]
  by_cases h : p.rule = ⟨#[99, 117, 116]⟩ <;> simp [h]
def x32_T1 : XC := .seq (.reg [⟨some 26,.move (.tmp 5),none⟩,⟨some 2,.assign (.tmp 26),none⟩]) .ret
def x32_L0 : XC := .seq (.seq (.reg [⟨some 12,.move (.tmp 6),none⟩,⟨some 13,.move (.tmp 3),none⟩,⟨some 14,.call ⟨.builtin .len,#[.tmp 13],#[27]⟩,none⟩,⟨some 15,.binOp .lss 3 (.tmp 12) (.tmp 14) 3,none⟩]) (.cond (.tmp 15) .skip (.exit 0))) (.seq (.block 1 (.seq (.reg [⟨some 18,.move (.tmp 3),none⟩,⟨some 19,.move (.tmp 6),none⟩,⟨some 20,.indexAddr 27 (.tmp 18) (.tmp 19),none⟩,⟨some 21,.fieldAddr 29 (.tmp 20) 0,none⟩,⟨some 22,.load 9 (.tmp 21),none⟩,⟨some 23,.binOp .eql 9 (.tmp 22) (.const (.string ⟨#[99,117,116]⟩)) 9,none⟩]) (.cond (.tmp 23) (.reg [⟨some 24,.move (.tmp 5),none⟩,⟨some 25,.binOp .add 3 (.tmp 24) (.const (.int .i64 1)) 3,none⟩,⟨some 5,.assign (.tmp 25),none⟩]) .skip))) (.reg [⟨some 16,.move (.tmp 6),none⟩,⟨some 17,.binOp .add 3 (.tmp 16) (.const (.int .i64 1)) 3,none⟩,⟨some 6,.assign (.tmp 17),none⟩]))
def x32 : XC := .seq (.reg [⟨some 1,.box 29 (.tmp 0),none⟩,⟨some 2,.assign (.const (.int .i64 0)),none⟩]) (.seq (.reg [⟨some 8,.load 29 (.tmp 1),none⟩,⟨some 9,.call ⟨.value (.func 23),#[.tmp 8,.const (.int .i64 1),.const (.int .i64 20001)],#[29,3,3]⟩,none⟩,⟨some 7,.move (.tmp 9),none⟩,⟨some 10,.extract (.tmp 7) 0,none⟩,⟨some 11,.extract (.tmp 7) 1,none⟩,⟨some 3,.assign (.tmp 10),none⟩,⟨some 4,.assign (.tmp 11),none⟩]) (.seq (.reg [⟨some 5,.assign (.const (.int .i64 0)),none⟩]) (.seq (.seq (.reg [⟨some 6,.assign (.const (.int .i64 0)),none⟩]) (.bloop 0 x32_L0)) (x32_T1))))
@[simp] theorem x32_s {C e s K} : type_of% (@X_at C e s K _ _ x32_T1.eq_1) ∧ type_of% (@X_at C e s K _ _ x32_L0.eq_1) ∧ type_of% (@X_at C e s K _ _ x32.eq_1) := ⟨X_at x32_T1.eq_1, X_at x32_L0.eq_1, X_at x32.eq_1⟩
def an32 : Ann := ⟨[], [(0, [], [3, 5, 6], [5])], []⟩
@[simp] theorem an32_a : an32.loopOf 0 = ([], [3, 5, 6], [5]) := rfl
theorem fi32 : FI Try.prog 32 (cxA an32) x32 [.tmp 2] Try.f32 := fiA Try.func32 mixed
theorem CutsIn_ref (u : Bool) (p : Pf) (hp : Szs p) (hc : (checkF u p).1 = 0) : CallOK Try.prog 32 [.agg (prf p)] [] (.int .i64 (cutsP p : Int)) [] := by
 have h1 := Steps_ref p hp 1 20001 (by decide) (by decide) (by decide)
 obtain ⟨s1, s2, s3⟩ := check_steps hc
 have hl : (preD p 1).length = (stepsP p).length := by rw [← s1, List.length_map]
 rw [List.take_of_length_le (by omega)] at h1
 have he : (preD p 1).map stpRow = (stepsP p).map prf := by rw [← s1, List.map_map]; rfl
 rw [he] at h1
 rw [← cutN_steps]
 generalize (preD p 1).map depRow = D at *
 generalize stepsP p = S at *
 refine fi32.op ?_
 ((refine Sg.h ?_); try repeat' ((first | (with_reducible first | refine brA ?_ | refine brE fun _ => ?_ | (refine spl ⟨?_, ?_⟩ <;> intro _)) | refine clo h1 ?_) <;> ((try simp -implicitDefEqProofs); (try simp -implicitDefEqProofs (disch := first | assumption | (try simp only [lens]); omega -splitDisjunctions)))))
 refine W_of fun Q hQ => ?_
 have main : ∀ n i, i + n = S.length → Q [(3, .list (S.map prf)), (5, .int .i64 (cutN (S.take i) : Int)), (6, .int .i64 (i : Int))] [] := by
  intro n
  induction n with
  | zero =>
   intro i hi
   obtain rfl : i = S.length := by omega
   rw [List.take_length]
   generalize cutN S = c at *
   apply hQ
   clear hQ
   ((refine Sg.h ?_); try repeat' ((first | (with_reducible first | refine brA ?_ | refine brE fun _ => ?_ | (refine spl ⟨?_, ?_⟩ <;> intro _))) <;> ((try simp -implicitDefEqProofs); (try simp -implicitDefEqProofs (disch := first | assumption | (try simp only [lens]); omega -splitDisjunctions)))))
  | succ n ih =>
   intro i hi
   have hil : i < S.length := by omega
   have ih := ih (i + 1) (by omega)
   have hle : cutN (S.take i) ≤ i := Nat.le_trans List.countP_le_length (by rw [List.length_take]; omega)
   rw [take_snoc hil, cutN_append] at ih
   have e1 : cutN [S[i]] = if S[i].rule = ⟨#[99, 117, 116]⟩ then 1 else 0 := by
    unfold cutN; rw [List.countP_cons, List.countP_nil]
    by_cases h : S[i].rule = ⟨#[99, 117, 116]⟩ <;> simp [h]
   rw [e1] at ih
   generalize cutN (S.take i) = c at *
   apply hQ
   clear hQ
   by_cases hr : S[i].rule = ⟨#[99, 117, 116]⟩
   ·rw [if_pos hr] at ih
    ((refine Sg.h ?_); try repeat' ((first | (with_reducible first | refine brA ?_ | refine brE fun _ => ?_ | (refine spl ⟨?_, ?_⟩ <;> intro _))) <;> ((try simp -implicitDefEqProofs [hil, hr]); (try simp -implicitDefEqProofs (disch := first | assumption | (try simp only [lens]); omega -splitDisjunctions) [hil, hr]))))
    all_goals first | exact ih | (refine at2 ih ?_ ?_ <;> simp; done) | (exfalso; first | omega | (simp_all; done) | (simp_all; omega))
   ·rw [if_neg hr] at ih
    ((refine Sg.h ?_); try repeat' ((first | (with_reducible first | refine brA ?_ | refine brE fun _ => ?_ | (refine spl ⟨?_, ?_⟩ <;> intro _))) <;> ((try simp -implicitDefEqProofs [hil, hr]); (try simp -implicitDefEqProofs (disch := first | assumption | (try simp only [lens]); omega -splitDisjunctions) [hil, hr]))))
    all_goals first | exact ih | (refine at2 ih ?_ ?_ <;> simp; done) | (exfalso; first | omega | (simp_all; done) | (simp_all; omega))
 have m0 := main _ 0 (Nat.zero_add _)
 all_goals first | exact m0 | (refine at2 m0 ?_ ?_ <;> simp; done) | (exfalso; first | omega | (simp_all; done) | (simp_all; omega))
end Go.Proofs.Ytnoklmapofogeaa
namespace Go.Proofs.Ytnoklmapofogeaa
open Go Go.Pv
def x51_L0 : XC := .seq (.seq (.reg [⟨some 11,.move (.tmp 5),none⟩,⟨some 12,.move (.tmp 0),none⟩,⟨some 13,.call ⟨.builtin .len,#[.tmp 12],#[22]⟩,none⟩,⟨some 14,.binOp .lss 3 (.tmp 11) (.tmp 13) 3,none⟩]) (.cond (.tmp 14) .skip (.exit 0))) (.seq (.block 1 (.seq (.drawn 6 [⟨some 17,.move (.tmp 0),none⟩,⟨some 18,.move (.tmp 5),none⟩,⟨some 19,.indexAddr 22 (.tmp 17) (.tmp 18),none⟩,⟨some 20,.load 24 (.tmp 19),none⟩,⟨some 21,.move (.tmp 1),none⟩,⟨some 22,.move (.tmp 5),none⟩,⟨some 23,.indexAddr 22 (.tmp 21) (.tmp 22),none⟩,⟨some 24,.load 24 (.tmp 23),none⟩,⟨some 25,.call ⟨.value (.func 71),#[.tmp 20,.tmp 24],#[24,24]⟩,none⟩,⟨some 26,.unOp .not 4 (.tmp 25),none⟩]) (.cond (.tmp 26) (.seq (.reg [⟨some 4,.assign (.const (.bool false)),none⟩]) .ret) .skip))) (.reg [⟨some 15,.move (.tmp 5),none⟩,⟨some 16,.binOp .add 3 (.tmp 15) (.const (.int .i64 1)) 3,none⟩,⟨some 5,.assign (.tmp 16),none⟩]))
def x51 : XC := .seq (.reg [⟨some 4,.assign (.const (.bool false)),none⟩]) (.seq (.seq (.reg [⟨some 6,.move (.tmp 0),none⟩,⟨some 7,.call ⟨.builtin .len,#[.tmp 6],#[22]⟩,none⟩,⟨some 8,.move (.tmp 1),none⟩,⟨some 9,.call ⟨.builtin .len,#[.tmp 8],#[22]⟩,none⟩,⟨some 10,.binOp .neq 3 (.tmp 7) (.tmp 9) 3,none⟩]) (.cond (.tmp 10) (.seq (.reg [⟨some 4,.assign (.const (.bool false)),none⟩]) .ret) .skip)) (.seq (.seq (.reg [⟨some 5,.assign (.const (.int .i64 0)),none⟩]) (.bloop 0 x51_L0)) (.seq (.reg [⟨some 4,.assign (.const (.bool true)),none⟩]) .ret)))
@[simp] theorem x51_s {C e s K} : type_of% (@X_at C e s K _ _ x51_L0.eq_1) ∧ type_of% (@X_at C e s K _ _ x51.eq_1) := ⟨X_at x51_L0.eq_1, X_at x51.eq_1⟩
def an51 : Ann := ⟨[(6, .mix 8)], [(0, [], [0, 1, 5], [4])], []⟩
@[simp] theorem an51_a : an51.clsOf 6 = .mix 8 ∧ an51.frzOf 6 = [] ∧ an51.loopOf 0 = ([], [0, 1, 5], [4]) := ⟨rfl, rfl, rfl⟩
theorem fi51 : FI Try.prog 51 (cxA an51) x51 [.tmp 4] Try.f51 := fiA Try.func51 mixed
theorem Alike_self (l : List Fm) : CallOK Try.prog 51 [.list (l.map frm), .list (l.map frm)] [] (.bool true) [] := by
 refine fi51.op ?_
 ((refine Sg.h ?_); try repeat' ((first | (with_reducible first | refine brA ?_ | refine brE fun _ => ?_ | (refine spl ⟨?_, ?_⟩ <;> intro _))) <;> ((try simp -implicitDefEqProofs); (try simp -implicitDefEqProofs (disch := first | assumption | (try simp only [lens]); omega -splitDisjunctions)))))
 refine W_of fun Q hQ => ?_
 have main : ∀ n i, i + n = l.length → Q [(0, .list (l.map frm)), (1, .list (l.map frm)), (5, .int .i64 (i : Int))] [] := by
  intro n
  induction n with
  | zero =>
   intro i hi
   apply hQ
   clear hQ
   ((refine Sg.h ?_); try repeat' ((first | (with_reducible first | refine brA ?_ | refine brE fun _ => ?_ | (refine spl ⟨?_, ?_⟩ <;> intro _))) <;> ((try simp -implicitDefEqProofs); (try simp -implicitDefEqProofs (disch := first | assumption | (try simp only [lens]); omega -splitDisjunctions)))))
  | succ n ih =>
   intro i hi
   have hil : i < l.length := by omega
   have ih := ih (i + 1) (by omega)
   have hc := Same_ref l[i] l[i]
   rw [sameB_iff.2 rfl] at hc
   apply hQ
   clear hQ
   ((refine Sg.h ?_); try repeat' ((first | (with_reducible first | refine brA ?_ | refine brE fun _ => ?_ | (refine spl ⟨?_, ?_⟩ <;> intro _)) | refine clo hc ?_) <;> ((try simp -implicitDefEqProofs [hil]); (try simp -implicitDefEqProofs (disch := first | assumption | (try simp only [lens]); omega -splitDisjunctions) [hil]))))
   all_goals first | exact ih | (refine at2 ih ?_ ?_ <;> simp; done) | (exfalso; first | omega | (simp_all; done) | (simp_all; omega))
 all_goals first | exact main _ 0 (Nat.zero_add _) | (refine at2 main _ 0 (Nat.zero_add _) ?_ ?_ <;> simp; done) | (exfalso; first | omega | (simp_all; done) | (simp_all; omega))
def x49 : XC := .seq (.reg [⟨some 1,.box 26 (.tmp 0),none⟩,⟨some 2,.alloc 26,none⟩]) (.seq (.drawn 1 [⟨some 3,.fieldAddr 26 (.tmp 1) 0,none⟩,⟨some 4,.load 22 (.tmp 3),none⟩,⟨some 5,.call ⟨.value (.func 57),#[.tmp 4],#[22]⟩,none⟩,⟨some 6,.fieldAddr 26 (.tmp 1) 1,none⟩,⟨some 7,.load 22 (.tmp 6),none⟩,⟨some 8,.call ⟨.value (.func 57),#[.tmp 7],#[22]⟩,none⟩,⟨some 9,.build 26 #[(0,.tmp 5),(1,.tmp 8)],none⟩,⟨none,.store 26 (.tmp 2) (.tmp 9),none⟩]) .ret)
@[simp] theorem x49_s {C e s K} : type_of% (@X_at C e s K _ _ x49.eq_1) := X_at x49.eq_1
def an49 : Ann := ⟨[(1, .mix 5)], [], []⟩
@[simp] theorem an49_a : an49.clsOf 1 = .mix 5 ∧ an49.frzOf 1 = [] := ⟨rfl, rfl⟩
theorem fi49 : FI Try.prog 49 (cxA an49) x49 [.cell 2 26] Try.f49 := fiA Try.func49 mixed
theorem ownSequent_law (l r : List Fm) (hl : l.length ≤ 1000000) (hr : r.length ≤ 1000000) (vl : ∀ f ∈ l, vastB f 0 = false) (vr : ∀ f ∈ r, vastB f 0 = false) : CallOK Try.prog 49 [.agg [.list (l.map frm), .list (r.map frm)]] [] (.agg [.list (l.map frm), .list (r.map frm)]) [] := by
 have h1 := ownList_law l hl vl
 have h2 := ownList_law r hr vr
 refine fi49.op ?_
 ((refine Sg.h ?_); try repeat' ((first | (with_reducible first | refine brA ?_ | refine brE fun _ => ?_ | (refine spl ⟨?_, ?_⟩ <;> intro _)) | refine clo h1 ?_ | refine clo h2 ?_) <;> ((try simp -implicitDefEqProofs); (try simp -implicitDefEqProofs (disch := first | assumption | (try simp only [lens]); omega -splitDisjunctions)))))
end Go.Proofs.Ytnoklmapofogeaa
namespace Go.Proofs.Ytnoklmapofogeaa
open Go Go.Pv
theorem sequent_zero {l r : List Fm} (h : (sequentF l r).1 = 0) : sequentF l r = (0, 0) := by
 obtain ⟨h1, h2, h3⟩ := sequent_all h
 have key : ∀ (L : List Fm) (i : Nat), (∀ f ∈ L, (plainF f).1 = 0) → seqGo L i = (0, 0) := by
  intro L
  induction L with
  | nil => intro i _; rfl
  | cons a t ih => intro i hL; rw [seqGo, if_neg (by simpa using hL a (.head _))]; exact ih _ fun f hf => hL f (.tail _ hf)
 unfold sequentF
 rw [if_neg (by omega)]
 exact key _ _ fun f hf => (List.mem_append.1 hf).elim (h2 f) (h3 f)
theorem nodeN_sz : ∀ {l : List Fm}, (∀ f ∈ l, Pz f) → nodeN l = szL l
 | [], _ => by simp [nodeN, szL, pres_nil]
 | f :: t, h => by
  have h1 := ((plainF_iff f).1 (h f (.head _))).2
  have h2 := walk_take f 300
  rw [List.take_of_length_le (by omega)] at h2
  have h3 := nodeN_sz fun f hf => h f (List.Mem.tail _ hf)
  have h4 := szL_app [f] t
  have h5 : szL [f] = (pre f).length := by unfold szL; rw [pres_cons, pres_nil, List.append_nil]
  rw [nodeN, show walkL f 300 = pre f from h2, h3]
  rw [List.singleton_append] at h4
  omega
theorem prov_ok {l r : List Fm} (h : (sequentF l r).1 = 0) {p : Pf} (hp : (provF l r).ok = some p) : p.l = l ∧ p.r = r ∧ checkF false p = (0, 0) ∧ cutsP p = 0 ∧ vastP p 0 = false := by
 obtain ⟨h1, h2, h3⟩ := sequent_all h
 have g := grow_gr _ l r 1 0 p (fun f hf => ((plainF_iff f).1 (h2 f hf)).1) (fun f hf => ((plainF_iff f).1 (h3 f hf)).1) hp
 obtain ⟨⟨e1, e2⟩, e3⟩ := gr_look g h2 h3
 have hv : ∀ f, Pz f → Pz f ∧ vastB f 0 = false := fun f hf => ⟨hf, by
  obtain ⟨a1, a2⟩ := (plainF_iff f).1 hf
  exact vast_small f 0 a1.1 (by omega)⟩
 refine ⟨e1, e2, ?_, gr_cuts g, gr_vast g (fun f hf => hv f (h2 f hf)) (fun f hf => hv f (h3 f hf)) 0 (by decide)⟩
 unfold checkF
 exact congrArg Prod.snd e3
theorem prov_open {l r : List Fm} (h : (sequentF l r).1 = 0) {V : List ByteArray} (hc : (provF l r).cnt = some V) : (∀ x ∈ V, isNameB x = true) ∧ V.length ≤ 60 ∧ Ct (fun x => memB x (cntC V)) l r := by
 obtain ⟨h1, h2, h3⟩ := sequent_all h
 obtain ⟨a1, a2, a3⟩ := grow_open _ l r 1 0 V (fun f hf => ((plainF_iff f).1 (h2 f hf)).1) (fun f hf => ((plainF_iff f).1 (h3 f hf)).1) hc
 have e : (fun x => memB x (cntC V)) = fun x => memB x V := by
  funext x
  rw [Bool.eq_iff_iff, memB_iff, memB_iff]
  exact (comp_ok V).2 x
 rw [e]
 exact ⟨a1, a2, a3⟩
theorem prov_small {l r : List Fm} (h : (sequentF l r).1 = 0) (h1 : (provF l r).ok = none) (h2 : (provF l r).cnt = none) : 25 < nodeN l + nodeN r := by
 obtain ⟨g1, g2, g3⟩ := sequent_all h
 rw [nodeN_sz g2, nodeN_sz g3]
 refine Classical.byContradiction fun hn => ?_
 have hb := bnd_mono (show szL l + szL r ≤ 25 by omega)
 have h25 : bnd 25 = 12287 := by decide
 have := (grow_small (szL l + szL r + 1) l r 1 0 (by omega) (fun f hf => ((plainF_iff f).1 (g2 f hf)).1) (fun f hf => ((plainF_iff f).1 (g3 f hf)).1) (by omega) (by omega) (by omega)).2
 change (provF l r).ok.isSome = true ∨ (provF l r).cnt.isSome = true at this
 rw [h1, h2] at this
 simp at this
def x11 : XC := .seq (.reg [⟨some 1,.box 26 (.tmp 0),none⟩,⟨some 2,.assign (.const (.bool false)),none⟩]) (.seq (.seq (.reg [⟨some 9,.call ⟨.value (.func 47),#[],#[]⟩,none⟩,⟨some 10,.unOp .not 4 (.tmp 9),none⟩]) (.cond (.tmp 10) (.seq (.reg [⟨some 2,.assign (.const (.bool false)),none⟩]) .ret) .skip)) (.seq (.seq (.reg [⟨some 11,.load 26 (.tmp 1),none⟩,⟨some 12,.call ⟨.value (.func 48),#[.tmp 11],#[26]⟩,none⟩]) (.cond (.tmp 12) (.seq (.reg [⟨some 2,.assign (.const (.bool true)),none⟩]) .ret) .skip)) (.seq (.reg [⟨some 13,.load 26 (.tmp 1),none⟩,⟨some 14,.call ⟨.value (.func 49),#[.tmp 13],#[26]⟩,none⟩,⟨some 3,.alloc 26,none⟩,⟨none,.store 26 (.tmp 3) (.tmp 14),none⟩]) (.seq (.reg [⟨some 16,.load 26 (.tmp 3),none⟩,⟨some 17,.call ⟨.value (.func 50),#[.tmp 16],#[26]⟩,none⟩,⟨some 15,.move (.tmp 17),none⟩,⟨some 18,.extract (.tmp 15) 0,none⟩,⟨some 19,.extract (.tmp 15) 1,none⟩,⟨some 20,.extract (.tmp 15) 2,none⟩,⟨some 21,.extract (.tmp 15) 3,none⟩,⟨some 4,.alloc 29,none⟩,⟨some 7,.alloc 33,none⟩,⟨none,.store 29 (.tmp 4) (.tmp 18),none⟩,⟨some 5,.assign (.tmp 19),none⟩,⟨some 6,.assign (.tmp 20),none⟩,⟨none,.store 33 (.tmp 7) (.tmp 21),none⟩]) (.seq (.reg [⟨some 22,.load 26 (.tmp 1),none⟩,⟨some 23,.call ⟨.value (.func 26),#[.tmp 22],#[26]⟩,none⟩,⟨some 8,.alloc 33,none⟩,⟨none,.store 33 (.tmp 8) (.tmp 23),none⟩]) (.seq (.seq (.reg [⟨some 24,.fieldAddr 26 (.tmp 3) 0,none⟩,⟨some 25,.load 22 (.tmp 24),none⟩,⟨some 26,.fieldAddr 26 (.tmp 1) 0,none⟩,⟨some 27,.load 22 (.tmp 26),none⟩,⟨some 28,.call ⟨.value (.func 51),#[.tmp 25,.tmp 27],#[22,22]⟩,none⟩,⟨some 29,.unOp .not 4 (.tmp 28),none⟩,⟨some 30,.move (.tmp 29),none⟩,⟨some 31,.fieldAddr 26 (.tmp 3) 1,some (some 30,false)⟩,⟨some 32,.load 22 (.tmp 31),some (some 30,false)⟩,⟨some 33,.fieldAddr 26 (.tmp 1) 1,some (some 30,false)⟩,⟨some 34,.load 22 (.tmp 33),some (some 30,false)⟩,⟨some 35,.call ⟨.value (.func 51),#[.tmp 32,.tmp 34],#[22,22]⟩,some (some 30,false)⟩,⟨some 36,.unOp .not 4 (.tmp 35),some (some 30,false)⟩,⟨some 37,.pick (.tmp 30) (.const (.bool true)) (.tmp 36),none⟩]) (.cond (.tmp 37) (.seq (.reg [⟨some 2,.assign (.const (.bool false)),none⟩]) .ret) .skip)) (.seq (.seq (.reg [⟨some 38,.fieldAddr 33 (.tmp 8) 0,none⟩,⟨some 39,.load 3 (.tmp 38),none⟩,⟨some 40,.binOp .neq 3 (.tmp 39) (.const (.int .i64 0)) 3,none⟩]) (.cond (.tmp 40) (.seq (.reg [⟨some 41,.load 33 (.tmp 7),none⟩,⟨some 42,.load 33 (.tmp 8),none⟩,⟨some 43,.binOp .eql 33 (.tmp 41) (.tmp 42) 33,none⟩,⟨some 44,.move (.tmp 43),none⟩,⟨some 45,.load 29 (.tmp 4),some (some 44,true)⟩,⟨some 46,.call ⟨.value (.func 52),#[.tmp 45],#[29]⟩,some (some 44,true)⟩,⟨some 47,.pick (.tmp 44) (.tmp 46) (.const (.bool false)),none⟩,⟨some 48,.move (.tmp 47),none⟩,⟨some 49,.move (.tmp 5),some (some 48,true)⟩,⟨some 50,.call ⟨.builtin .len,#[.tmp 49],#[35]⟩,some (some 48,true)⟩,⟨some 51,.binOp .eql 3 (.tmp 50) (.const (.int .i64 0)) 3,some (some 48,true)⟩,⟨some 52,.pick (.tmp 48) (.tmp 51) (.const (.bool false)),none⟩,⟨some 53,.move (.tmp 52),none⟩,⟨some 54,.move (.tmp 6),some (some 53,true)⟩,⟨some 55,.unOp .not 4 (.tmp 54),some (some 53,true)⟩,⟨some 56,.pick (.tmp 53) (.tmp 55) (.const (.bool false)),none⟩,⟨some 2,.assign (.tmp 56),none⟩]) .ret) .skip)) (.seq (.seq (.reg [⟨some 57,.fieldAddr 33 (.tmp 7) 0,none⟩,⟨some 58,.load 3 (.tmp 57),none⟩,⟨some 59,.binOp .neq 3 (.tmp 58) (.const (.int .i64 0)) 3,none⟩]) (.cond (.tmp 59) (.seq (.drawn 13 [⟨some 60,.load 33 (.tmp 7),none⟩,⟨some 61,.call ⟨.value (.func 38),#[.const (.int .i64 10),.const (.int .i64 0)],#[3,3]⟩,none⟩,⟨some 62,.binOp .eql 33 (.tmp 60) (.tmp 61) 33,none⟩,⟨some 63,.move (.tmp 62),none⟩,⟨some 64,.load 26 (.tmp 1),some (some 63,true)⟩,⟨some 65,.call ⟨.value (.func 53),#[.tmp 64],#[26]⟩,some (some 63,true)⟩,⟨some 66,.binOp .gtr 3 (.tmp 65) (.const (.int .i64 25)) 3,some (some 63,true)⟩,⟨some 67,.pick (.tmp 63) (.tmp 66) (.const (.bool false)),none⟩,⟨some 68,.move (.tmp 67),none⟩,⟨some 69,.load 29 (.tmp 4),some (some 68,true)⟩,⟨some 70,.call ⟨.value (.func 52),#[.tmp 69],#[29]⟩,some (some 68,true)⟩,⟨some 71,.pick (.tmp 68) (.tmp 70) (.const (.bool false)),none⟩,⟨some 72,.move (.tmp 71),none⟩,⟨some 73,.move (.tmp 5),some (some 72,true)⟩,⟨some 74,.call ⟨.builtin .len,#[.tmp 73],#[35]⟩,some (some 72,true)⟩,⟨some 75,.binOp .eql 3 (.tmp 74) (.const (.int .i64 0)) 3,some (some 72,true)⟩,⟨some 76,.pick (.tmp 72) (.tmp 75) (.const (.bool false)),none⟩,⟨some 77,.move (.tmp 76),none⟩,⟨some 78,.move (.tmp 6),some (some 77,true)⟩,⟨some 79,.unOp .not 4 (.tmp 78),some (some 77,true)⟩,⟨some 80,.pick (.tmp 77) (.tmp 79) (.const (.bool false)),none⟩,⟨some 2,.assign (.tmp 80),none⟩]) .ret) .skip)) (.seq (.seq (.reg [⟨some 81,.move (.tmp 6),none⟩,⟨some 82,.unOp .not 4 (.tmp 81),none⟩]) (.cond (.tmp 82) (.seq (.reg [⟨some 83,.load 29 (.tmp 4),none⟩,⟨some 84,.call ⟨.value (.func 52),#[.tmp 83],#[29]⟩,none⟩,⟨some 85,.move (.tmp 84),none⟩,⟨some 86,.move (.tmp 5),some (some 85,true)⟩,⟨some 87,.call ⟨.value (.func 54),#[.tmp 86],#[35]⟩,some (some 85,true)⟩,⟨some 88,.pick (.tmp 85) (.tmp 87) (.const (.bool false)),none⟩,⟨some 89,.move (.tmp 88),none⟩,⟨some 90,.load 26 (.tmp 1),some (some 89,true)⟩,⟨some 91,.move (.tmp 5),some (some 89,true)⟩,⟨some 92,.call ⟨.value (.func 55),#[.tmp 90,.tmp 91],#[26,35]⟩,some (some 89,true)⟩,⟨some 93,.pick (.tmp 89) (.tmp 92) (.const (.bool false)),none⟩,⟨some 2,.assign (.tmp 93),none⟩]) .ret) .skip)) (.seq (.seq (.reg [⟨some 94,.move (.tmp 5),none⟩,⟨some 95,.call ⟨.builtin .len,#[.tmp 94],#[35]⟩,none⟩,⟨some 96,.binOp .gtr 3 (.tmp 95) (.const (.int .i64 0)) 3,none⟩,⟨some 97,.move (.tmp 96),none⟩,⟨some 98,.load 29 (.tmp 4),some (some 97,false)⟩,⟨some 99,.call ⟨.value (.func 15),#[.tmp 98,.const (.int .i64 0)],#[29,3]⟩,some (some 97,false)⟩,⟨some 100,.pick (.tmp 97) (.const (.bool true)) (.tmp 99),none⟩,⟨some 101,.move (.tmp 100),none⟩,⟨some 102,.load 29 (.tmp 4),some (some 101,false)⟩,⟨some 103,.call ⟨.value (.func 29),#[.tmp 102,.const (.bool false)],#[29,4]⟩,some (some 101,false)⟩,⟨some 104,.field 33 (.tmp 103) 0,some (some 101,false)⟩,⟨some 105,.binOp .neq 3 (.tmp 104) (.const (.int .i64 0)) 3,some (some 101,false)⟩,⟨some 106,.pick (.tmp 101) (.const (.bool true)) (.tmp 105),none⟩]) (.cond (.tmp 106) (.seq (.reg [⟨some 2,.assign (.const (.bool false)),none⟩]) .ret) .skip)) (.seq (.reg [⟨some 107,.load 29 (.tmp 4),none⟩,⟨some 108,.call ⟨.value (.func 32),#[.tmp 107],#[29]⟩,none⟩,⟨some 109,.binOp .eql 3 (.tmp 108) (.const (.int .i64 0)) 3,none⟩,⟨some 110,.move (.tmp 109),none⟩,⟨some 111,.fieldAddr 29 (.tmp 4) 2,some (some 110,true)⟩,⟨some 112,.fieldAddr 26 (.tmp 111) 0,some (some 110,true)⟩,⟨some 113,.load 22 (.tmp 112),some (some 110,true)⟩,⟨some 114,.fieldAddr 26 (.tmp 1) 0,some (some 110,true)⟩,⟨some 115,.load 22 (.tmp 114),some (some 110,true)⟩,⟨some 116,.call ⟨.value (.func 56),#[.tmp 113,.tmp 115],#[22,22]⟩,some (some 110,true)⟩,⟨some 117,.pick (.tmp 110) (.tmp 116) (.const (.bool false)),none⟩,⟨some 118,.move (.tmp 117),none⟩,⟨some 119,.fieldAddr 29 (.tmp 4) 2,some (some 118,true)⟩,⟨some 120,.fieldAddr 26 (.tmp 119) 1,some (some 118,true)⟩,⟨some 121,.load 22 (.tmp 120),some (some 118,true)⟩,⟨some 122,.fieldAddr 26 (.tmp 1) 1,some (some 118,true)⟩,⟨some 123,.load 22 (.tmp 122),some (some 118,true)⟩,⟨some 124,.call ⟨.value (.func 56),#[.tmp 121,.tmp 123],#[22,22]⟩,some (some 118,true)⟩,⟨some 125,.pick (.tmp 118) (.tmp 124) (.const (.bool false)),none⟩,⟨some 2,.assign (.tmp 125),none⟩]) .ret)))))))))))
@[simp] theorem x11_s {C e s K} : type_of% (@X_at C e s K _ _ x11.eq_1) := X_at x11.eq_1
def an11 : Ann := ⟨[(13, .mix 2)], [], []⟩
@[simp] theorem an11_a : an11.clsOf 13 = .mix 2 ∧ an11.frzOf 13 = [] := ⟨rfl, rfl⟩
theorem fi11 : FI Try.prog 11 (cxA an11) x11 [.tmp 2] Try.f11 := fiA Try.func11 mixed
theorem classicProves_law (l r : List Fm) : CallOK Try.prog 11 [.agg [.list (l.map frm), .list (r.map frm)]] [] (.bool true) [] := by
 have h0 := classicBegun_law
 have h1 := vastSequent_law l r
 have hnp := noProof_law
 unfold noPf at hnp
 cases hv : vastP (.mk ⟨#[]⟩ (.mk 0 ⟨#[]⟩ []) l r []) 0 with
 | true =>
  rw [hv] at h1
  refine fi11.op ?_
  ((refine Sg.h ?_); try repeat' ((first | (with_reducible first | refine brA ?_ | refine brE fun _ => ?_ | (refine spl ⟨?_, ?_⟩ <;> intro _)) | refine clo h0 ?_ | refine clo h1 ?_) <;> ((try simp -implicitDefEqProofs); (try simp -implicitDefEqProofs (disch := first | assumption | (try simp only [lens]); omega -splitDisjunctions)))))
 | false =>
  rw [hv] at h1
  obtain ⟨_, v2, v3, _, v5, v6, _⟩ := vastP_all hv
  simp only [pf_mk1] at v2 v3 v5 v6
  have h2 := ownSequent_law l r (by omega) (by omega) v5 v6
  have h3 := SequentFault_ref l r (by omega) (by omega)
  have h4 := Alike_self l
  have h5 := Alike_self r
  by_cases hs : (sequentF l r).1 = 0
  ·obtain ⟨g1, g2, g3⟩ := sequent_all hs
   have hz := sequent_zero hs
   rw [hz] at h3
   have p2 : ∀ f ∈ l, Pl f := fun f hf => ((plainF_iff f).1 (g2 f hf)).1
   have p3 : ∀ f ∈ r, Pl f := fun f hf => ((plainF_iff f).1 (g3 f hf)).1
   cases hok : (provF l r).ok with
   | some p =>
    obtain ⟨e1, e2, e3, e4, e5⟩ := prov_ok hs hok
    have hsz := vast_szs p 0 e5
    have h6 := Prove_ok l r hz p2 p3 g1 p hok e5
    have h7 := VastProof_ref p 0 (by decide) (by decide)
    have h8 := ProofFault_ref false p hsz
    have h9 := CutsIn_ref false p hsz (by rw [e3])
    have ha := Bag_ref l l (by omega) (by omega)
    have hb := Bag_ref r r (by omega) (by omega)
    rw [same_self] at ha hb
    rw [e5] at h7
    rw [e3] at h8
    rw [e4] at h9
    have hpf := prf_eq p
    rw [e1, e2] at hpf
    rw [hpf] at h6 h7 h8 h9
    refine fi11.op ?_
    ((refine Sg.h ?_); try repeat' ((first | (with_reducible first | refine brA ?_ | refine brE fun _ => ?_ | (refine spl ⟨?_, ?_⟩ <;> intro _)) | refine clo h0 ?_ | refine clo h1 ?_ | refine clo h2 ?_ | refine clo h3 ?_ | refine clo h4 ?_ | refine clo h5 ?_ | refine clo h6 ?_ | refine clo h7 ?_ | refine clo h8 ?_ | refine clo h9 ?_ | refine clo ha ?_ | refine clo hb ?_) <;> ((try simp -implicitDefEqProofs); (try simp -implicitDefEqProofs (disch := first | assumption | (try simp only [lens]); omega -splitDisjunctions)))))
   | none =>
    have h6 := Prove_open l r hz p2 p3 g1 hok
    cases hc : (provF l r).cnt with
    | some V =>
     obtain ⟨a1, a2, a3⟩ := prov_open hs hc
     have h7 := Rising_ref (cntC V) (comp_ok V).1 (fun x hx => a1 x (((comp_ok V).2 x).1 hx))
     have h8 := Counters_ref l r (cntC V) p2 p3 (by omega) (by omega) a3
     rw [hc] at h6
     unfold cntV noPf at h6
     simp only [Option.isSome_some, if_true] at h6
     generalize cntC V = C at *
     refine fi11.op ?_
     ((refine Sg.h ?_); try repeat' ((first | (with_reducible first | refine brA ?_ | refine brE fun _ => ?_ | (refine spl ⟨?_, ?_⟩ <;> intro _)) | refine clo h0 ?_ | refine clo h1 ?_ | refine clo h2 ?_ | refine clo h3 ?_ | refine clo h4 ?_ | refine clo h5 ?_ | refine clo h6 ?_ | refine clo h7 ?_ | refine clo h8 ?_ | refine clo hnp ?_) <;> ((try simp -implicitDefEqProofs); (try simp -implicitDefEqProofs (disch := first | assumption | (try simp only [lens]); omega -splitDisjunctions)))))
    | none =>
     have h7 := NodesIn_ref l r (by omega) (by omega)
     have hn := prov_small hs hok hc
     rw [hc] at h6
     unfold cntV noPf at h6
     simp only [Option.isSome_none, Bool.false_eq_true, if_false] at h6
     generalize nodeN l + nodeN r = n at *
     have hni : (25 : Int) < (n : Int) := by omega
     have hf := F_ref 10 0
     refine fi11.op ?_
     ((refine Sg.h ?_); try repeat' ((first | (with_reducible first | refine brA ?_ | refine brE fun _ => ?_ | (refine spl ⟨?_, ?_⟩ <;> intro _)) | refine clo h0 ?_ | refine clo h1 ?_ | refine clo h2 ?_ | refine clo h3 ?_ | refine clo h4 ?_ | refine clo h5 ?_ | refine clo h6 ?_ | refine clo h7 ?_ | refine clo hnp ?_ | refine clo hf ?_) <;> ((try simp -implicitDefEqProofs [hni]); (try simp -implicitDefEqProofs (disch := first | assumption | (try simp only [lens]); omega -splitDisjunctions) [hni]))))
  ·have h6 := Prove_fault l r (by omega) (by omega) hs
   generalize sequentF l r = S at *
   unfold noPf at h6
   refine fi11.op ?_
   ((refine Sg.h ?_); try repeat' ((first | (with_reducible first | refine brA ?_ | refine brE fun _ => ?_ | (refine spl ⟨?_, ?_⟩ <;> intro _)) | refine clo h0 ?_ | refine clo h1 ?_ | refine clo h2 ?_ | refine clo h3 ?_ | refine clo h4 ?_ | refine clo h5 ?_ | refine clo h6 ?_ | refine clo hnp ?_) <;> ((try simp -implicitDefEqProofs [hs]); (try simp -implicitDefEqProofs (disch := first | assumption | (try simp only [lens]); omega -splitDisjunctions) [hs]))))
end Go.Proofs.Ytnoklmapofogeaa
