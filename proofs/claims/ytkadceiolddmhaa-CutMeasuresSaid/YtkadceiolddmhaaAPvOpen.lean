import Derived.Test.YtkadceiolddmhaaACdD
import Derived.Test.YtkadceiolddmhaaACcZ
import Derived.Test.YtkadceiolddmhaaACcV
import Derived.Test.YtkadceiolddmhaaAPvData
import Derived.DataReads
import Derived.ChangeShapes
set_option linter.unusedVariables false
set_option linter.unusedSimpArgs false
set_option maxRecDepth 100000
set_option maxHeartbeats 4000000
namespace Go.Proofs.Ytkadceiolddmhaa
open Go Go.Pv
theorem preD_szs (p : Pf) : ∀ d, Szs p → ∀ x ∈ preD p d, Szs x.1 := by
 induction p using Pf.ind with
 | h p ih =>
  intro d hp x hx
  rw [preD_eq] at hx
  rcases List.mem_cons.1 hx with rfl | hx
  ·exact hp
  ·split at hx
   ·rw [preDs_eq] at hx
    obtain ⟨k, hk, hx⟩ := List.mem_flatMap.1 hx
    exact ih k hk _ (hp.kid hk) x hx
   ·cases hx
def x38_T1 : XC := .seq (.reg [⟨some 41,.build 33 #[],none⟩,⟨none,.store 33 (.tmp 4) (.tmp 41),none⟩]) .ret
def x38_L0 : XC := .seq (.seq (.reg [⟨some 14,.move (.tmp 7),none⟩,⟨some 15,.move (.tmp 5),none⟩,⟨some 16,.call ⟨.builtin .len,#[.tmp 15],#[62]⟩,none⟩,⟨some 17,.binOp .lss 3 (.tmp 14) (.tmp 16) 3,none⟩]) (.cond (.tmp 17) .skip (.exit 0))) (.seq (.block 1 (.seq (.seq (.reg [⟨some 20,.move (.tmp 7),none⟩,⟨some 21,.binOp .eql 3 (.tmp 20) (.const (.int .i64 20000)) 3,none⟩,⟨some 22,.move (.tmp 21),none⟩,⟨some 23,.move (.tmp 6),some (some 22,false)⟩,⟨some 24,.move (.tmp 7),some (some 22,false)⟩,⟨some 25,.indexAddr 46 (.tmp 23) (.tmp 24),some (some 22,false)⟩,⟨some 26,.load 3 (.tmp 25),some (some 22,false)⟩,⟨some 27,.binOp .gtr 3 (.tmp 26) (.const (.int .i64 400)) 3,some (some 22,false)⟩,⟨some 28,.pick (.tmp 22) (.const (.bool true)) (.tmp 27),none⟩]) (.cond (.tmp 28) (.seq (.reg [⟨some 29,.call ⟨.value (.func 56),#[.const (.int .i64 2),.const (.int .i64 0)],#[3,3]⟩,none⟩,⟨none,.store 33 (.tmp 4) (.tmp 29),none⟩]) .ret) .skip)) (.seq (.reg [⟨some 30,.move (.tmp 5),none⟩,⟨some 31,.move (.tmp 7),none⟩,⟨some 32,.indexAddr 62 (.tmp 30) (.tmp 31),none⟩,⟨some 33,.load 64 (.tmp 32),none⟩,⟨some 34,.move (.tmp 1),none⟩,⟨some 35,.call ⟨.value (.func 89),#[.tmp 33,.tmp 34],#[64,4]⟩,none⟩,⟨some 8,.assign (.tmp 35),none⟩]) (.seq (.reg [⟨some 36,.move (.tmp 8),none⟩,⟨some 37,.binOp .neq 3 (.tmp 36) (.const (.int .i64 0)) 3,none⟩]) (.cond (.tmp 37) (.seq (.reg [⟨some 38,.move (.tmp 8),none⟩,⟨some 39,.move (.tmp 7),none⟩,⟨some 40,.call ⟨.value (.func 56),#[.tmp 38,.tmp 39],#[3,3]⟩,none⟩,⟨none,.store 33 (.tmp 4) (.tmp 40),none⟩]) .ret) .skip))))) (.reg [⟨some 18,.move (.tmp 7),none⟩,⟨some 19,.binOp .add 3 (.tmp 18) (.const (.int .i64 1)) 3,none⟩,⟨some 7,.assign (.tmp 19),none⟩]))
def x38 : XC := .seq (.reg [⟨some 2,.box 64 (.tmp 0),none⟩,⟨some 4,.alloc 33,none⟩]) (.seq (.reg [⟨some 10,.load 64 (.tmp 2),none⟩,⟨some 11,.call ⟨.value (.func 39),#[.tmp 10,.const (.int .i64 1),.const (.int .i64 20001)],#[64,3,3]⟩,none⟩,⟨some 9,.move (.tmp 11),none⟩,⟨some 12,.extract (.tmp 9) 0,none⟩,⟨some 13,.extract (.tmp 9) 1,none⟩,⟨some 5,.assign (.tmp 12),none⟩,⟨some 6,.assign (.tmp 13),none⟩]) (.seq (.seq (.reg [⟨some 7,.assign (.const (.int .i64 0)),none⟩]) (.bloop 0 x38_L0)) (x38_T1)))
@[simp] theorem x38_s {C e s K} : type_of% (@X_at C e s K _ _ x38_T1.eq_1) ∧ type_of% (@X_at C e s K _ _ x38_L0.eq_1) ∧ type_of% (@X_at C e s K _ _ x38.eq_1) := ⟨X_at x38_T1.eq_1, X_at x38_L0.eq_1, X_at x38.eq_1⟩
def an38 : Ann := ⟨[], [(0, [], [1, 4, 5, 6, 7], [4])], []⟩
@[simp] theorem an38_a : an38.loopOf 0 = ([], [1, 4, 5, 6, 7], [4]) := rfl
theorem fi38 : FI Try.prog 38 (cxA an38) x38 [.cell 4 33] Try.f38 := fiA Try.func38 mixed
theorem ProofFault_ref (u : Bool) (p : Pf) (hp : Szs p) : CallOK Try.prog 38 [.agg (prf p), .bool u] [] (.agg [.int .i64 (checkF u p).1, .int .i64 (checkF u p).2]) [] := by
 have h1 := Steps_ref p hp 1 20001 (by decide) (by decide) (by decide)
 have hz : ∀ x ∈ (preD p 1).take 20002, Szs x.1 := fun x hx => preD_szs p 1 hp x (List.mem_of_mem_take hx)
 have hV : (scanF u ((preD p 1).take 20002) 0).2 = checkF u p := by rw [check_scan, scanF_take u _ 0 20002 (by decide) (by decide)]
 have hf := F_ref 2 0
 rw [show 20001 + 1 = 20002 from rfl] at h1
 have hl : ((preD p 1).take 20002).length ≤ 20002 := List.length_take_le _ _
 generalize checkF u p = V at *
 generalize (preD p 1).take 20002 = L at *
 refine fi38.op ?_
 ((refine Sg.h ?_); try repeat' ((first | (with_reducible first | refine brA ?_ | refine brE fun _ => ?_ | (refine spl ⟨?_, ?_⟩ <;> intro _)) | refine clo h1 ?_) <;> ((try simp -implicitDefEqProofs); (try simp -implicitDefEqProofs (disch := first | assumption | (try simp only [lens]); omega -splitDisjunctions)))))
 refine W_of fun Q hQ => ?_
 have main : ∀ n i, i + n = L.length → i ≤ 20000 → (scanF u (L.drop i) i).2 = V → Q [(1, .bool u), (4, .ptr 0 0 0), (5, .list (L.map stpRow)), (6, .list (L.map depRow)), (7, .int .i64 (i : Int))] [.rows 2 [[.int .i64 0, .int .i64 0]]] := by
  intro n
  induction n with
  | zero =>
   intro i hi hi2 he
   rw [List.drop_of_length_le (by omega), scanF] at he
   have hii : ¬ (i : Int) < (L.length : Int) := by omega
   apply hQ
   clear hQ
   subst he
   ((refine Sg.h ?_); try repeat' ((first | (with_reducible first | refine brA ?_ | refine brE fun _ => ?_ | (refine spl ⟨?_, ?_⟩ <;> intro _))) <;> ((try simp -implicitDefEqProofs [hii]); (try simp -implicitDefEqProofs (disch := first | assumption | (try simp only [lens]); omega -splitDisjunctions) [hii]))))
  | succ n ih =>
   intro i hi hi2 he
   have hil : i < L.length := by omega
   have ih := ih (i + 1) (by omega)
   have hzi := hz _ (List.getElem_mem hil)
   have hc := stepCode_ref u L[i].1 hzi.sz (fun k hk => (hzi.kid hk).sz)
   have hf2 := F_ref (codeF u L[i].1) (i : Int)
   rw [List.drop_eq_getElem_cons hil, scanF] at he
   apply hQ
   clear hQ
   by_cases h20 : i = 20000
   ·subst h20
    rw [if_pos (.inl (by omega))] at he
    subst he
    ((refine Sg.h ?_); try repeat' ((first | (with_reducible first | refine brA ?_ | refine brE fun _ => ?_ | (refine spl ⟨?_, ?_⟩ <;> intro _)) | refine clo hf ?_) <;> ((try simp -implicitDefEqProofs [hil]); (try simp -implicitDefEqProofs (disch := first | assumption | (try simp only [lens]); omega -splitDisjunctions) [hil]))))
   ·have h20i : ¬ (i : Int) = 20000 := by omega
    by_cases h4 : 400 < L[i].2
    ·rw [if_pos (.inr h4)] at he
     subst he
     ((refine Sg.h ?_); try repeat' ((first | (with_reducible first | refine brA ?_ | refine brE fun _ => ?_ | (refine spl ⟨?_, ?_⟩ <;> intro _)) | refine clo hf ?_) <;> ((try simp -implicitDefEqProofs [hil, h20i, h4]); (try simp -implicitDefEqProofs (disch := first | assumption | (try simp only [lens]); omega -splitDisjunctions) [hil, h20i, h4]))))
    ·rw [if_neg (by omega)] at he
     have e2 : (if (sequentF L[i].1.l L[i].1.r).1 ≠ 0 ∨ (u = true ∧ 1 < L[i].1.r.length) then (i + 1, (5, (i : Int))) else if stepF u L[i].1 ≠ 0 then (i + 1, (stepF u L[i].1, (i : Int))) else scanF u (L.drop (i + 1)) (i + 1)) = if codeF u L[i].1 ≠ 0 then (i + 1, (codeF u L[i].1, (i : Int))) else scanF u (L.drop (i + 1)) (i + 1) := by
      unfold codeF
      split <;> simp
     rw [e2] at he
     generalize codeF u L[i].1 = c at *
     by_cases h0 : c = 0
     ·rw [if_neg (by simpa using h0)] at he
      have ih := ih (by omega) he
      ((refine Sg.h ?_); try repeat' ((first | (with_reducible first | refine brA ?_ | refine brE fun _ => ?_ | (refine spl ⟨?_, ?_⟩ <;> intro _)) | refine clo hc ?_) <;> ((try simp -implicitDefEqProofs [hil, h20i, h4, h0]); (try simp -implicitDefEqProofs (disch := first | assumption | (try simp only [lens]); omega -splitDisjunctions) [hil, h20i, h4, h0]))))
      all_goals first | exact ih | (refine at2 ih ?_ ?_ <;> simp; done) | (exfalso; first | omega | (simp_all; done) | (simp_all; omega))
     ·rw [if_pos h0] at he
      subst he
      ((refine Sg.h ?_); try repeat' ((first | (with_reducible first | refine brA ?_ | refine brE fun _ => ?_ | (refine spl ⟨?_, ?_⟩ <;> intro _)) | refine clo hc ?_ | refine clo hf2 ?_) <;> ((try simp -implicitDefEqProofs [hil, h20i, h4, h0]); (try simp -implicitDefEqProofs (disch := first | assumption | (try simp only [lens]); omega -splitDisjunctions) [hil, h20i, h4, h0]))))
 have m0 := main _ 0 (Nat.zero_add _) (by decide) (by simpa using hV)
 all_goals first | exact m0 | (refine at2 m0 ?_ ?_ <;> simp; done) | (exfalso; first | omega | (simp_all; done) | (simp_all; omega))
end Go.Proofs.Ytkadceiolddmhaa
namespace Go.Proofs.Ytkadceiolddmhaa
open Go Go.Pv
def x9_T1 : XC := .seq (.reg [⟨some 91,.move (.tmp 5),none⟩,⟨some 92,.move (.tmp 10),none⟩,⟨some 93,.call ⟨.builtin .len,#[.tmp 92],#[62]⟩,none⟩,⟨some 94,.binOp .eql 3 (.tmp 91) (.tmp 93) 3,none⟩,⟨some 95,.move (.tmp 94),none⟩,⟨some 96,.move (.tmp 6),some (some 95,true)⟩,⟨some 97,.move (.tmp 12),some (some 95,true)⟩,⟨some 98,.binOp .eql 3 (.tmp 96) (.tmp 97) 3,some (some 95,true)⟩,⟨some 99,.pick (.tmp 95) (.tmp 98) (.const (.bool false)),none⟩,⟨some 100,.move (.tmp 99),none⟩,⟨some 101,.move (.tmp 7),some (some 100,true)⟩,⟨some 102,.move (.tmp 13),some (some 100,true)⟩,⟨some 103,.binOp .eql 3 (.tmp 101) (.tmp 102) 3,some (some 100,true)⟩,⟨some 104,.pick (.tmp 100) (.tmp 103) (.const (.bool false)),none⟩,⟨some 4,.assign (.tmp 104),none⟩]) .ret
def x9_L0 : XC := .seq (.seq (.reg [⟨some 51,.move (.tmp 14),none⟩,⟨some 52,.move (.tmp 10),none⟩,⟨some 53,.call ⟨.builtin .len,#[.tmp 52],#[62]⟩,none⟩,⟨some 54,.binOp .lss 3 (.tmp 51) (.tmp 53) 3,none⟩]) (.cond (.tmp 54) .skip (.exit 0))) (.seq (.block 1 (.seq (.seq (.reg [⟨some 57,.move (.tmp 11),none⟩,⟨some 58,.move (.tmp 14),none⟩,⟨some 59,.indexAddr 46 (.tmp 57) (.tmp 58),none⟩,⟨some 60,.load 3 (.tmp 59),none⟩,⟨some 61,.move (.tmp 12),none⟩,⟨some 62,.binOp .gtr 3 (.tmp 60) (.tmp 61) 3,none⟩]) (.cond (.tmp 62) (.reg [⟨some 63,.move (.tmp 11),none⟩,⟨some 64,.move (.tmp 14),none⟩,⟨some 65,.indexAddr 46 (.tmp 63) (.tmp 64),none⟩,⟨some 66,.load 3 (.tmp 65),none⟩,⟨some 12,.assign (.tmp 66),none⟩]) .skip)) (.seq (.reg [⟨some 67,.move (.tmp 10),none⟩,⟨some 68,.move (.tmp 14),none⟩,⟨some 69,.indexAddr 62 (.tmp 67) (.tmp 68),none⟩,⟨some 70,.fieldAddr 64 (.tmp 69) 0,none⟩,⟨some 71,.load 9 (.tmp 70),none⟩,⟨some 72,.binOp .eql 9 (.tmp 71) (.const (.string ⟨#[99,117,116]⟩)) 9,none⟩,⟨some 73,.move (.tmp 72),none⟩,⟨some 74,.move (.tmp 10),some (some 73,true)⟩,⟨some 75,.move (.tmp 14),some (some 73,true)⟩,⟨some 76,.indexAddr 62 (.tmp 74) (.tmp 75),some (some 73,true)⟩,⟨some 77,.fieldAddr 64 (.tmp 76) 1,some (some 73,true)⟩,⟨some 78,.load 59 (.tmp 77),some (some 73,true)⟩,⟨some 79,.call ⟨.value (.func 40),#[.tmp 78,.const (.int .i64 300)],#[59,3]⟩,some (some 73,true)⟩,⟨some 80,.call ⟨.builtin .len,#[.tmp 79],#[57]⟩,some (some 73,true)⟩,⟨some 81,.move (.tmp 13),some (some 73,true)⟩,⟨some 82,.binOp .gtr 3 (.tmp 80) (.tmp 81) 3,some (some 73,true)⟩,⟨some 83,.pick (.tmp 73) (.tmp 82) (.const (.bool false)),none⟩]) (.cond (.tmp 83) (.reg [⟨some 84,.move (.tmp 10),none⟩,⟨some 85,.move (.tmp 14),none⟩,⟨some 86,.indexAddr 62 (.tmp 84) (.tmp 85),none⟩,⟨some 87,.fieldAddr 64 (.tmp 86) 1,none⟩,⟨some 88,.load 59 (.tmp 87),none⟩,⟨some 89,.call ⟨.value (.func 40),#[.tmp 88,.const (.int .i64 300)],#[59,3]⟩,none⟩,⟨some 90,.call ⟨.builtin .len,#[.tmp 89],#[57]⟩,none⟩,⟨some 13,.assign (.tmp 90),none⟩]) .skip)))) (.reg [⟨some 55,.move (.tmp 14),none⟩,⟨some 56,.binOp .add 3 (.tmp 55) (.const (.int .i64 1)) 3,none⟩,⟨some 14,.assign (.tmp 56),none⟩]))
def x9 : XC := .seq (.reg [⟨some 2,.box 64 (.tmp 0),none⟩,⟨some 4,.assign (.const (.bool false)),none⟩]) (.seq (.seq (.reg [⟨some 15,.call ⟨.value (.func 35),#[],#[]⟩,none⟩,⟨some 16,.unOp .not 4 (.tmp 15),none⟩]) (.cond (.tmp 16) (.seq (.reg [⟨some 4,.assign (.const (.bool false)),none⟩]) .ret) .skip)) (.seq (.seq (.reg [⟨some 17,.load 64 (.tmp 2),none⟩,⟨some 18,.call ⟨.value (.func 36),#[.tmp 17,.const (.int .i64 0)],#[64,3]⟩,none⟩]) (.cond (.tmp 18) (.seq (.reg [⟨some 4,.assign (.const (.bool true)),none⟩]) .ret) .skip)) (.seq (.reg [⟨some 20,.load 64 (.tmp 2),none⟩,⟨some 21,.move (.tmp 1),none⟩,⟨some 22,.call ⟨.value (.func 37),#[.tmp 20,.tmp 21],#[64,4]⟩,none⟩,⟨some 19,.move (.tmp 22),none⟩,⟨some 23,.extract (.tmp 19) 0,none⟩,⟨some 24,.extract (.tmp 19) 1,none⟩,⟨some 25,.extract (.tmp 19) 2,none⟩,⟨some 26,.extract (.tmp 19) 3,none⟩,⟨some 8,.alloc 33,none⟩,⟨some 5,.assign (.tmp 23),none⟩,⟨some 6,.assign (.tmp 24),none⟩,⟨some 7,.assign (.tmp 25),none⟩,⟨none,.store 33 (.tmp 8) (.tmp 26),none⟩]) (.seq (.reg [⟨some 27,.load 64 (.tmp 2),none⟩,⟨some 28,.move (.tmp 1),none⟩,⟨some 29,.call ⟨.value (.func 38),#[.tmp 27,.tmp 28],#[64,4]⟩,none⟩,⟨some 9,.alloc 33,none⟩,⟨none,.store 33 (.tmp 9) (.tmp 29),none⟩]) (.seq (.seq (.reg [⟨some 30,.load 33 (.tmp 8),none⟩,⟨some 31,.load 33 (.tmp 9),none⟩,⟨some 32,.binOp .neq 33 (.tmp 30) (.tmp 31) 33,none⟩]) (.cond (.tmp 32) (.seq (.reg [⟨some 4,.assign (.const (.bool false)),none⟩]) .ret) .skip)) (.seq (.seq (.reg [⟨some 33,.fieldAddr 33 (.tmp 9) 0,none⟩,⟨some 34,.load 3 (.tmp 33),none⟩,⟨some 35,.binOp .neq 3 (.tmp 34) (.const (.int .i64 0)) 3,none⟩]) (.cond (.tmp 35) (.seq (.reg [⟨some 36,.move (.tmp 5),none⟩,⟨some 37,.binOp .eql 3 (.tmp 36) (.const (.int .i64 0)) 3,none⟩,⟨some 38,.move (.tmp 37),none⟩,⟨some 39,.move (.tmp 6),some (some 38,true)⟩,⟨some 40,.binOp .eql 3 (.tmp 39) (.const (.int .i64 0)) 3,some (some 38,true)⟩,⟨some 41,.pick (.tmp 38) (.tmp 40) (.const (.bool false)),none⟩,⟨some 42,.move (.tmp 41),none⟩,⟨some 43,.move (.tmp 7),some (some 42,true)⟩,⟨some 44,.binOp .eql 3 (.tmp 43) (.const (.int .i64 0)) 3,some (some 42,true)⟩,⟨some 45,.pick (.tmp 42) (.tmp 44) (.const (.bool false)),none⟩,⟨some 4,.assign (.tmp 45),none⟩]) .ret) .skip)) (.seq (.reg [⟨some 47,.load 64 (.tmp 2),none⟩,⟨some 48,.call ⟨.value (.func 39),#[.tmp 47,.const (.int .i64 1),.const (.int .i64 20001)],#[64,3,3]⟩,none⟩,⟨some 46,.move (.tmp 48),none⟩,⟨some 49,.extract (.tmp 46) 0,none⟩,⟨some 50,.extract (.tmp 46) 1,none⟩,⟨some 10,.assign (.tmp 49),none⟩,⟨some 11,.assign (.tmp 50),none⟩]) (.seq (.reg [⟨some 12,.assign (.const (.int .i64 0)),none⟩]) (.seq (.reg [⟨some 13,.assign (.const (.int .i64 0)),none⟩]) (.seq (.seq (.reg [⟨some 14,.assign (.const (.int .i64 0)),none⟩]) (.bloop 0 x9_L0)) (x9_T1)))))))))))
@[simp] theorem x9_s {C e s K} : type_of% (@X_at C e s K _ _ x9_T1.eq_1) ∧ type_of% (@X_at C e s K _ _ x9_L0.eq_1) ∧ type_of% (@X_at C e s K _ _ x9.eq_1) := ⟨X_at x9_T1.eq_1, X_at x9_L0.eq_1, X_at x9.eq_1⟩
def an9 : Ann := ⟨[], [(0, [], [5, 6, 7, 10, 11, 12, 13, 14], [5, 6, 7, 10, 12, 13])], []⟩
@[simp] theorem an9_a : an9.loopOf 0 = ([], [5, 6, 7, 10, 11, 12, 13, 14], [5, 6, 7, 10, 12, 13]) := rfl
theorem fi9 : FI Try.prog 9 (cxA an9) x9 [.tmp 4] Try.f9 := fiA Try.func9 mixed
theorem cutMeasures_law (p : Pf) (u : Bool) : CallOK Try.prog 9 [.agg (prf p), .bool u] [] (.bool true) [] := by
 have h0 := cutBegun_law
 have h1 := VastProof_ref p 0 (by decide) (by decide)
 refine fi9.op ?_
 cases hv : vastP p 0 with
 | true =>
  rw [hv] at h1
  ((refine Sg.h ?_); try repeat' ((first | (with_reducible first | refine brA ?_ | refine brE fun _ => ?_ | (refine spl ⟨?_, ?_⟩ <;> intro _)) | refine clo h0 ?_ | refine clo h1 ?_) <;> ((try simp -implicitDefEqProofs); (try simp -implicitDefEqProofs (disch := first | assumption | (try simp only [lens]); omega -splitDisjunctions)))))
 | false =>
  rw [hv] at h1
  have hsz := vast_szs p 0 hv
  have h5 := ProofFault_ref u p hsz
  by_cases hc : (checkF u p).1 = 0
  ·have h3 := Measure_ok u p hsz hc
   obtain ⟨c1, c2, c3⟩ := check_steps hc
   have hst := Steps_ref p hsz 1 20001 (by decide) (by decide) (by decide)
   have hlen : ((preD p 1).take 20002) = preD p 1 := List.take_of_length_le (by rw [← List.length_map (f := (·.1)), c1]; omega)
   rw [show (20001 + 1 : Nat) = 20002 from rfl, hlen] at hst
   have hw : ∀ x ∈ preD p 1, x.1.rule = ⟨#[99, 117, 116]⟩ → CallOK Try.prog 40 [.agg (frm x.1.f), .int .i64 300] [] (.list ((nodesGo 200 200 [x.1.f]).map frm)) [] := by
    intro x hx hr
    have hpl := cut_plain hc x hx hr
    have h := walk_ref x.1.f 300 (by decide) (by decide) []
    rw [show (300 : Int) = ((300 : Nat) : Int) from rfl, walk_take, List.take_of_length_le (by have := ((plainF_iff _).1 hpl).2; omega)] at h
    rw [nodes_plain hpl]
    exact h
   have hT : (preD p 1).length ≤ 20000 := by rw [← List.length_map (f := (·.1)), c1]; omega
   rw [check_zero' hc] at h5
   clear c1 c2 c3 hlen
   have hMa : ((preD p 1).foldl Ms.add ⟨0, 0, 0⟩).a = (preD p 1).length := by rw [foldl_add_a]; simp
   generalize hM : (preD p 1).foldl Ms.add ⟨0, 0, 0⟩ = M at *
   obtain ⟨a, b, c⟩ := M
   dsimp only at hMa h3
   generalize preD p 1 = T at *
   ((refine Sg.h ?_); try repeat' ((first | (with_reducible first | refine brA ?_ | refine brE fun _ => ?_ | (refine spl ⟨?_, ?_⟩ <;> intro _)) | refine clo h0 ?_ | refine clo h1 ?_ | refine clo h3 ?_ | refine clo h5 ?_ | refine clo hst ?_) <;> ((try simp -implicitDefEqProofs); (try simp -implicitDefEqProofs (disch := first | assumption | (try simp only [lens]); omega -splitDisjunctions)))))
   refine W_of fun Q hQ => ?_
   have main : ∀ r i (m : Ms), i + r = T.length → (T.drop i).foldl Ms.add m = ⟨a, b, c⟩ → Q [(5, .int .i64 a), (6, .int .i64 b), (7, .int .i64 c), (10, .list (T.map stpRow)), (11, .list (T.map depRow)), (12, .int .i64 m.b), (13, .int .i64 m.c), (14, .int .i64 (i : Int))] [] := by
    intro r
    induction r with
    | zero =>
     intro i m hi he
     rw [List.drop_of_length_le (by omega), List.foldl_nil] at he
     subst he
     apply hQ
     clear hQ
     ((refine Sg.h ?_); try repeat' ((first | (with_reducible first | refine brA ?_ | refine brE fun _ => ?_ | (refine spl ⟨?_, ?_⟩ <;> intro _))) <;> ((try simp -implicitDefEqProofs [hMa]); (try simp -implicitDefEqProofs (disch := first | assumption | (try simp only [lens]); omega -splitDisjunctions) [hMa]))))
    | succ r ih =>
     intro i m hi he
     have hil : i < T.length := by omega
     rw [List.drop_eq_getElem_cons hil, List.foldl_cons] at he
     have ih := ih (i + 1) (m.add T[i]) (by omega) he
     have hw := hw _ (List.getElem_mem hil)
     have hl := lenF_le T[i].1.f
     clear he
     unfold Ms.add lenF cutNm at ih
     unfold lenF at hl
     have mx : ∀ a b : Int, max a b = if a < b then b else a := fun a b => by rw [Int.max_def]; split <;> split <;> omega
     simp only [mx] at ih
     generalize nodesGo 200 200 [T[i].1.f] = L at *
     apply hQ
     clear hQ
     by_cases hr : T[i].1.rule = ⟨#[99, 117, 116]⟩
     ·have hw := hw hr
      simp only [hr, if_true] at ih
      by_cases h1 : m.b < T[i].2 <;> by_cases h2 : m.c < (L.length : Int) <;> simp only [h1, h2, if_true, if_false] at ih
      all_goals
       ((refine Sg.h ?_); try repeat' ((first | (with_reducible first | refine brA ?_ | refine brE fun _ => ?_ | (refine spl ⟨?_, ?_⟩ <;> intro _)) | refine clo hw ?_) <;> ((try simp -implicitDefEqProofs [hil, hr, h1, h2]); (try simp -implicitDefEqProofs (disch := first | assumption | (try simp only [lens]); omega -splitDisjunctions) [hil, hr, h1, h2]))))
       all_goals first | exact ih | (refine at2 ih ?_ ?_ <;> simp; done) | (exfalso; first | omega | (simp_all; done) | (simp_all; omega))
     ·simp only [hr, if_false] at ih
      by_cases h1 : m.b < T[i].2 <;> simp only [h1, if_true, if_false] at ih
      all_goals
       ((refine Sg.h ?_); try repeat' ((first | (with_reducible first | refine brA ?_ | refine brE fun _ => ?_ | (refine spl ⟨?_, ?_⟩ <;> intro _))) <;> ((try simp -implicitDefEqProofs [hil, hr, h1]); (try simp -implicitDefEqProofs (disch := first | assumption | (try simp only [lens]); omega -splitDisjunctions) [hil, hr, h1]))))
       all_goals first | exact ih | (refine at2 ih ?_ ?_ <;> simp; done) | (exfalso; first | omega | (simp_all; done) | (simp_all; omega))
   all_goals first | exact main _ 0 ⟨0, 0, 0⟩ (Nat.zero_add _) hM | (refine at2 main _ 0 ⟨0, 0, 0⟩ (Nat.zero_add _) hM ?_ ?_ <;> simp; done) | (exfalso; first | omega | (simp_all; done) | (simp_all; omega))
  ·have h3 := Measure_fault u p hsz hc
   generalize checkF u p = V at *
   ((refine Sg.h ?_); try repeat' ((first | (with_reducible first | refine brA ?_ | refine brE fun _ => ?_ | (refine spl ⟨?_, ?_⟩ <;> intro _)) | refine clo h0 ?_ | refine clo h1 ?_ | refine clo h3 ?_ | refine clo h5 ?_) <;> ((try simp -implicitDefEqProofs [hc]); (try simp -implicitDefEqProofs (disch := first | assumption | (try simp only [lens]); omega -splitDisjunctions) [hc]))))
end Go.Proofs.Ytkadceiolddmhaa
namespace Go.Pv
open Go
inductive HasTy (P : Program) : TypeId → List PV → Prop where
 | bool {t b} (h : P.underlying t = some .bool) : HasTy P t [.bool b]
 | int {t k n} (h : P.underlying t = some (.int k)) (wf : (Lit.int k n).wf = true) : HasTy P t [.int k n]
 | str {t s} (h : P.underlying t = some .string) (hs : s.size ≤ maxLen) (hb : s.size ≤ reachBytes) : HasTy P t [.str s]
 | slice {t e rows} (h : P.underlying t = some (.slice e)) (hr : ∀ row ∈ rows, HasTy P e row) (hb : rows.length * P.bytesOf e ≤ reachBytes) : HasTy P t [.list rows]
 | struct {t} {fs : Array Field} {parts : List (List PV)} (h : P.underlying t = some (.struct fs)) (hl : parts.length = fs.size)
   (hp : ∀ (i : Nat) (f : Field) (row : List PV), fs[i]? = some f → parts[i]? = some row → HasTy P f.type row) : HasTy P t parts.flatten
 | array {t n e} {parts : List (List PV)} (h : P.underlying t = some (.array n e)) (hl : parts.length = n) (hp : ∀ row ∈ parts, HasTy P e row) : HasTy P t parts.flatten
def RowRel (pub : PHeap) (row : List PV) (cs : List Value) : Prop := row.length = cs.length ∧ ∀ (j : Nat) (v : PV) (c : Value), row[j]? = some v → cs[j]? = some c → Rel pub noSig v c
theorem RowRel.nil {pub : PHeap} : RowRel pub [] [] := ⟨rfl, fun j v c h => by simp at h⟩
theorem RowRel.one {pub : PHeap} {v : PV} {c : Value} (h : Rel pub noSig v c) : RowRel pub [v] [c] := ⟨rfl, fun j x y hx hy => by
 cases j with
 | zero => simp at hx hy; subst hx hy; exact h
 | succ j => simp at hx⟩
theorem RowRel.append {pub : PHeap} {r r' : List PV} {cs cs' : List Value} (h : RowRel pub r cs) (g : RowRel pub r' cs') : RowRel pub (r ++ r') (cs ++ cs') := by
 refine ⟨by simp [h.1, g.1], fun j v c hv hc => ?_⟩
 rw [List.getElem?_append] at hv hc
 split at hv
 ·rename_i hlt; rw [if_pos (by rw [← h.1]; exact hlt)] at hc; exact h.2 j v c hv hc
 ·rename_i hge; rw [if_neg (by rw [← h.1]; exact hge), ← h.1] at hc; exact g.2 _ v c hv hc
def contig (P : Program) (total : Nat) : List Field → Nat → Bool
 | [], o => o == total
 | f :: r, o => f.offset == o && contig P total r (o + P.cellsOf f.type)
def tyOK (P : Program) (S : List TypeId) (t : TypeId) : Bool := match P.underlying t with
 | some .bool | some (.int _) | some .string => true
 | some (.slice e) => S.contains e && decide (0 < P.cellsOf e)
 | some (.struct fs) => contig P (P.cellsOf t) fs.toList 0 && fs.toList.all fun f => S.contains f.type
 | some (.array n e) => S.contains e && n * P.cellsOf e == P.cellsOf t
 | _ => false
theorem rows_of {α : Type} (p : Nat → α → Prop) : ∀ n, (∀ i, i < n → ∃ x, p i x) → ∃ l : List α, l.length = n ∧ ∀ i x, l[i]? = some x → p i x := by
 intro n
 induction n with
 | zero => intro _; exact ⟨[], rfl, fun i x h => by simp at h⟩
 | succ n ih =>
  intro h
  obtain ⟨l, hl, hp⟩ := ih fun i hi => h i (by omega)
  obtain ⟨x, hx⟩ := h n (by omega)
  refine ⟨l ++ [x], by simp [hl], fun i y hy => ?_⟩
  rw [List.getElem?_append] at hy
  split at hy
  ·exact hp i y hy
  ·rename_i hge
   have hi := lt_of_getElem? hy
   simp only [List.length_cons, List.length_nil] at hi
   have hin : i = n := by omega
   subst hin
   rw [show i - l.length = 0 by omega] at hy
   simp at hy; subst hy; exact hx
section
variable {H : Type} {enc : TypeId × Value → H} {P : Program} {S : List TypeId} {w : World} {spare : Nat → Bool} {held : Bool}
theorem fields_rel {fuel total : Nat} {cs : List Value} {pub : PHeap} (hcs : cs.length = total)
  (ih : ∀ (t : TypeId) (cs : List Value) (x : DataW H × List MemPlace), S.contains t = true → DataW.trod enc P w 0 spare held fuel t cs = some x → (∀ n ∈ DataW.weights P t x.1, n ≤ reachBytes) → ∃ row, HasTy P t row ∧ RowRel pub row cs) :
  ∀ (fs : List Field) (o : Nat) (xs : List (DataW H × List MemPlace)), contig P total fs o = true → (fs.all fun f => S.contains f.type) = true →
   (fs.mapM fun f => DataW.trod enc P w 0 spare held fuel f.type ((cs.drop f.offset).take (P.cellsOf f.type))) = some xs → (∀ n ∈ DataW.weightsEach P (fs.map (·.type)) (xs.map (·.1)), n ≤ reachBytes) →
   o ≤ total ∧ ∃ parts : List (List PV), parts.length = fs.length ∧ (∀ (i : Nat) (f : Field) (row : List PV), fs[i]? = some f → parts[i]? = some row → HasTy P f.type row) ∧ RowRel pub parts.flatten (cs.drop o) := by
 intro fs
 induction fs with
 | nil =>
  intro o xs hc _ _ _
  simp only [contig, beq_iff_eq] at hc
  refine ⟨by omega, [], rfl, fun i f row h => by simp at h, ?_⟩
  rw [List.drop_eq_nil_of_le (by omega)]; exact .nil
 | cons f r ih2 =>
  intro o xs hc ha hm hw
  simp only [contig, Bool.and_eq_true, beq_iff_eq] at hc
  simp only [List.all_cons, Bool.and_eq_true] at ha
  obtain ⟨ho, hc⟩ := hc
  rw [List.mapM_cons] at hm
  cases hx : DataW.trod enc P w 0 spare held fuel f.type ((cs.drop f.offset).take (P.cellsOf f.type)) with
  | none => rw [hx] at hm; simp at hm
  | some x =>
   cases hxs : (r.mapM fun f => DataW.trod enc P w 0 spare held fuel f.type ((cs.drop f.offset).take (P.cellsOf f.type))) with
   | none => rw [hx, hxs] at hm; simp at hm
   | some ys =>
    rw [hx, hxs] at hm
    obtain rfl : x :: ys = xs := by simpa using hm
    simp only [List.map_cons, DataW.weightsEach, List.mem_append] at hw
    obtain ⟨h1, parts, h2, h3, h4⟩ := ih2 _ ys hc ha.2 hxs fun n hn => hw n (.inr hn)
    obtain ⟨row, g1, g2⟩ := ih _ _ _ ha.1 hx fun n hn => hw n (.inl hn)
    refine ⟨by omega, row :: parts, by simp [h2], fun i f' row' hf hr => ?_, ?_⟩
    ·cases i with
     | zero => simp at hf hr; subst hf hr; exact g1
     | succ i => exact h3 i f' row' (by simpa using hf) (by simpa using hr)
    ·rw [List.flatten_cons]
     have hsplit : cs.drop o = (cs.drop o).take (P.cellsOf f.type) ++ cs.drop (o + P.cellsOf f.type) := by
      rw [← List.drop_drop, List.take_append_drop]
     rw [hsplit, ← ho]
     rw [← ho] at h4
     exact g2.append h4
theorem elems_rel {fuel : Nat} {cs : List Value} {pub : PHeap} {e : TypeId} (hin : S.contains e = true)
  (ih : ∀ (t : TypeId) (cs : List Value) (x : DataW H × List MemPlace), S.contains t = true → DataW.trod enc P w 0 spare held fuel t cs = some x → (∀ n ∈ DataW.weights P t x.1, n ≤ reachBytes) → ∃ row, HasTy P t row ∧ RowRel pub row cs) :
  ∀ (k i : Nat) (xs : List (DataW H × List MemPlace)), cs.length = (i + k) * P.cellsOf e →
   ((List.range' i k).mapM fun i => DataW.trod enc P w 0 spare held fuel e ((cs.drop (i * P.cellsOf e)).take (P.cellsOf e))) = some xs → (∀ n ∈ DataW.weightsAll P e (xs.map (·.1)), n ≤ reachBytes) →
   ∃ parts : List (List PV), parts.length = k ∧ (∀ row ∈ parts, HasTy P e row) ∧ RowRel pub parts.flatten (cs.drop (i * P.cellsOf e)) := by
 intro k
 induction k with
 | zero =>
  intro i xs hc _ _
  refine ⟨[], rfl, by simp, ?_⟩
  rw [List.drop_eq_nil_of_le (by rw [hc]; exact Nat.le_refl _)]; exact .nil
 | succ k ih2 =>
  intro i xs hc hm hw
  rw [List.range'_succ, List.mapM_cons] at hm
  cases hx : DataW.trod enc P w 0 spare held fuel e ((cs.drop (i * P.cellsOf e)).take (P.cellsOf e)) with
  | none => rw [hx] at hm; simp at hm
  | some x =>
   cases hxs : ((List.range' (i + 1) k).mapM fun i => DataW.trod enc P w 0 spare held fuel e ((cs.drop (i * P.cellsOf e)).take (P.cellsOf e))) with
   | none => rw [hx, hxs] at hm; simp at hm
   | some ys =>
    rw [hx, hxs] at hm
    obtain rfl : x :: ys = xs := by simpa using hm
    simp only [List.map_cons, DataW.weightsAll, List.mem_append] at hw
    obtain ⟨parts, h2, h3, h4⟩ := ih2 (i + 1) ys (by rw [hc]; congr 1; omega) hxs fun n hn => hw n (.inr hn)
    obtain ⟨row, g1, g2⟩ := ih _ _ _ hin hx fun n hn => hw n (.inl hn)
    refine ⟨row :: parts, by simp [h2], fun row' hr => ?_, ?_⟩
    ·rcases List.mem_cons.1 hr with rfl | hr
     ·exact g1
     ·exact h3 _ hr
    ·rw [List.flatten_cons]
     have hsplit : cs.drop (i * P.cellsOf e) = (cs.drop (i * P.cellsOf e)).take (P.cellsOf e) ++ cs.drop ((i + 1) * P.cellsOf e) := by
      rw [Nat.add_mul, Nat.one_mul, ← List.drop_drop, List.take_append_drop]
     rw [hsplit]
     exact g2.append h4
def heapOf (w : World) : PHeap := fun b => w.heap[b]?
theorem cell_block {w : World} {a : Addr} {c : Value} (h : w.cell? a = some c) : a.spot = none ∧ ∃ cs ty fr, w.heap[a.block]? = some (.cells cs ty fr) ∧ cs[a.off]? = some c := by
 unfold World.cell? at h
 split at h
 ·rename_i cs ty fr hh
  split at h
  ·cases h
  ·rename_i hs; exact ⟨by simpa using hs, cs, ty, fr, hh, h⟩
 ·cases h
theorem weightsAll_mem {H : Type} {P : Program} {e : TypeId} : ∀ {l : List (DataW H)} {d : DataW H} {n : Nat}, d ∈ l → n ∈ DataW.weights P e d → n ∈ DataW.weightsAll P e l
 | a :: r, d, n, h, hn => by
  simp only [DataW.weightsAll, List.mem_append]
  rcases List.mem_cons.1 h with rfl | h
  ·exact .inl hn
  ·exact .inr (weightsAll_mem h hn)
theorem trod_rel (hS : ∀ t, S.contains t = true → tyOK P S t = true) : ∀ (fuel : Nat) (t : TypeId) (cs : List Value) (x : DataW H × List MemPlace), S.contains t = true →
  DataW.trod enc P w 0 spare held fuel t cs = some x → (∀ n ∈ DataW.weights P t x.1, n ≤ reachBytes) → ∃ row, HasTy P t row ∧ RowRel (heapOf w) row cs := by
 intro fuel
 induction fuel with
 | zero => intro t cs x _ h; simp [DataW.trod] at h
 | succ fuel ih =>
  intro t cs x hin h hw
  have hok := hS t hin
  unfold tyOK at hok
  unfold DataW.trod at h
  split at hok
  ·rename_i hu
   rw [hu] at h
   split at h <;> first | (cases h; done) | skip
   all_goals first | (rename_i heq; cases heq; done) | skip
   exact ⟨_, .bool hu, .one .bool⟩
  ·rename_i k hu
   rw [hu] at h
   split at h <;> first | (cases h; done) | skip
   all_goals first | (rename_i heq; cases heq; done) | skip
   rename_i heq; cases heq
   split at h
   ·rename_i hk; obtain ⟨rfl, hwf⟩ := hk; exact ⟨_, .int hu hwf, .one .int⟩
   ·cases h
  ·rename_i hu
   rw [hu] at h
   split at h <;> first | (cases h; done) | skip
   all_goals first | (rename_i heq; cases heq; done) | skip
   split at h
   ·rename_i s hs
    cases h
    exact ⟨_, .str hu hs (by simpa [DataW.weights] using hw), .one (.str hs)⟩
   ·cases h
  ·rename_i e hu
   rw [hu] at h
   simp only [Bool.and_eq_true, decide_eq_true_eq] at hok
   split at h <;> first | (cases h; done) | skip
   all_goals first | (rename_i heq; cases heq; done) | skip
   ·exact ⟨[.list []], .slice hu (fun row hr => by cases hr) (by simp), .one (.list0 (Nat.zero_le _))⟩
   ·rename_i e' a len cap heq
    cases heq
    simp only at h
    split at h
    ·rename_i hc
     obtain ⟨_, hlc, hcm⟩ := hc
     obtain ⟨elems, hm, h⟩ := Option.bind_eq_some_iff.1 h
     obtain ⟨rest, hrest, rfl⟩ := Option.map_eq_some_iff.1 h
     simp only [DataW.weights, hu, List.mem_cons, List.mem_append] at hw
     by_cases h0 : len = 0
     ·subst h0
      exact ⟨[.list []], .slice hu (fun row hr => by cases hr) (by simp), .one (.list0 hcm)⟩
     ·have hel : ∀ i, i < len → ∃ row : List PV, HasTy P e row ∧ ∃ ec : List Value, ec.length = P.cellsOf e ∧ (∀ j, j < P.cellsOf e → w.cell? ((a.add (i * P.cellsOf e)).add j) = ec[j]?) ∧ RowRel (heapOf w) row ec := by
       intro i hi
       have hx := mapM_some_get hm i i (by simp [hi])
       have hl := mapM_some_length hm
       simp only [List.length_range] at hl
       rw [List.getElem?_eq_getElem (by omega)] at hx
       obtain ⟨ec, h1, h2⟩ := Option.bind_eq_some_iff.1 hx
       obtain ⟨_, h3, h4⟩ := World.cells?_some h1
       obtain ⟨row, g1, g2⟩ := ih e ec _ hok.1 h2 fun n hn => hw n (.inr (.inl (weightsAll_mem (List.mem_map.2 ⟨_, List.getElem_mem _, rfl⟩) hn)))
       exact ⟨row, g1, ec, h3, h4, g2⟩
      obtain ⟨rows, hrl, hrp⟩ := rows_of _ len hel
      -- the block
      have h00 : w.cell? ((a.add (0 * P.cellsOf e)).add 0) = w.cell? a := by simp [Addr.add]
      obtain ⟨_, _, ec0, hec0, hcell0, _⟩ := hel 0 (by omega)
      have hc0 : w.cell? a = some (ec0[0]'(by omega)) := by
       rw [← h00, hcell0 0 hok.2]; exact List.getElem?_eq_getElem _
      obtain ⟨hsp, arr, ty, fr, hblk, _⟩ := cell_block hc0
      obtain ⟨b, o, sp⟩ := a
      simp only at hsp hblk
      subst hsp
      have hcellat : ∀ i, i < len → ∀ j, j < P.cellsOf e → w.cell? (((⟨b, o, none⟩ : Addr).add (i * P.cellsOf e)).add j) = arr[o + i * P.cellsOf e + j]? := by
       intro i _ j _
       rw [Addr.add_at, Addr.add_at, cell_at hblk]
      have hsz : o + rows.length * P.cellsOf e ≤ arr.size := by
       obtain ⟨_, _, ec, hec, hcell, _⟩ := hel (len - 1) (by omega)
       have h1 := hcell (P.cellsOf e - 1) (by omega)
       rw [hcellat (len - 1) (by omega) _ (by omega), List.getElem?_eq_getElem (by omega)] at h1
       have h2 : o + (len - 1) * P.cellsOf e + (P.cellsOf e - 1) < arr.size := by
        rcases Nat.lt_or_ge (o + (len - 1) * P.cellsOf e + (P.cellsOf e - 1)) arr.size with h | h
        ·exact h
        ·rw [Array.getElem?_eq_none h] at h1; cases h1
       rw [hrl]
       have h3 : len * P.cellsOf e = (len - 1) * P.cellsOf e + P.cellsOf e := by
        rw [← Nat.succ_mul]; congr 1; omega
       omega
      refine ⟨[.list rows], .slice hu (fun row hr => ?_) ?_, .one ?_⟩
      rotate_left
      ·have h1 := hw _ (.inl rfl)
       have hl := mapM_some_length hm
       simp only [List.length_map, List.length_range] at h1 hl
       rw [hrl, ← hl]
       exact Nat.le_trans (Nat.mul_le_mul_right _ (Nat.le_add_right _ _)) h1
      rotate_left
      ·obtain ⟨i, hi⟩ := List.mem_iff_getElem?.1 hr
       exact (hrp i row hi).1
      ·have key : Rel (heapOf w) noSig (.list rows) (.slice (some ⟨b, o, none⟩) rows.length cap) := by
        refine .list (esz := P.cellsOf e) hblk (by omega) hcm ?_ hsz ?_
        ·intro r row hr
         obtain ⟨_, ec, h1, _, h3⟩ := hrp r row hr
         rw [h3.1, h1]
        ·intro r row j v c hr hj hcc
         have hrlt := lt_of_getElem? hr
         obtain ⟨_, ec, h1, h2, h3⟩ := hrp r row hr
         have hjl := lt_of_getElem? hj
         have h4 := h3.1
         have h5 := h2 j (by omega)
         rw [hcellat r (by omega) j (by omega), hcc] at h5
         exact h3.2 j v c hj h5.symm
       rw [hrl] at key
       exact key
    ·cases h
  ·rename_i fs hu
   rw [hu] at h
   simp only [Bool.and_eq_true] at hok
   have h' : (if cs.length = P.cellsOf t then (fs.toList.mapM fun f => DataW.trod enc P w 0 spare held fuel f.type ((cs.drop f.offset).take (P.cellsOf f.type))).map fun xs => ((DataW.agg (xs.map (·.1)) : DataW H), xs.flatMap (·.2)) else none) = some x := by
    split at h
    all_goals first | (rename_i heq; cases heq; exact h) | (rename_i heq; cases heq; done) | (exfalso; simp only [Option.some.injEq, reduceCtorEq] at *; done) | (simp_all; done)
   split at h'
   ·rename_i hlen
    obtain ⟨xs, hm, rfl⟩ := Option.map_eq_some_iff.1 h'
    simp only [DataW.weights, hu] at hw
    obtain ⟨_, parts, h1, h2, h3⟩ := fields_rel hlen ih fs.toList 0 xs hok.1 hok.2 hm hw
    refine ⟨parts.flatten, .struct hu (by simpa using h1) (fun i f row hf hr => h2 i f row (by simpa using hf) hr), by simpa using h3⟩
   ·cases h'
  ·rename_i n e hu
   rw [hu] at h
   simp only [Bool.and_eq_true, beq_iff_eq] at hok
   have h' : (if cs.length = P.cellsOf t then ((List.range n).mapM fun i => DataW.trod enc P w 0 spare held fuel e ((cs.drop (i * P.cellsOf e)).take (P.cellsOf e))).map fun xs => ((DataW.agg (xs.map (·.1)) : DataW H), xs.flatMap (·.2)) else none) = some x := by
    split at h
    all_goals first | (rename_i heq; cases heq; exact h) | (rename_i heq; cases heq; done) | (exfalso; simp only [Option.some.injEq, reduceCtorEq] at *; done) | (simp_all; done)
   split at h'
   ·rename_i hlen
    obtain ⟨xs, hm, rfl⟩ := Option.map_eq_some_iff.1 h'
    rw [List.range_eq_range'] at hm
    simp only [DataW.weights, hu] at hw
    obtain ⟨parts, h1, h2, h3⟩ := elems_rel hok.1 ih n 0 xs (by rw [hlen, ← hok.2]; congr 1; omega) hm hw
    refine ⟨parts.flatten, .array hu h1 h2, by simpa using h3⟩
   ·cases h'
  ·cases hok
end
section
variable {P : Program} {t : TypeId} {row : List PV}
theorem HasTy.int' {k : IntKind} (hu : P.underlying t = some (.int k)) (h : HasTy P t row) : ∃ n, row = [.int k n] ∧ (Lit.int k n).wf = true := by
 cases h with
 | bool h1 => rw [h1] at hu; cases hu
 | int h1 wf => rw [h1] at hu; cases hu; exact ⟨_, rfl, wf⟩
 | str h1 hs hb => rw [h1] at hu; cases hu
 | slice h1 hr hb => rw [h1] at hu; cases hu
 | struct h1 hl hp => rw [h1] at hu; cases hu
 | array h1 hl hp => rw [h1] at hu; cases hu
theorem HasTy.str' (hu : P.underlying t = some .string) (h : HasTy P t row) : ∃ s, row = [.str s] ∧ s.size ≤ maxLen := by
 cases h with
 | bool h1 => rw [h1] at hu; cases hu
 | int h1 wf => rw [h1] at hu; cases hu
 | str h1 hs hb => rw [h1] at hu; cases hu; exact ⟨_, rfl, hs⟩
 | slice h1 hr hb => rw [h1] at hu; cases hu
 | struct h1 hl hp => rw [h1] at hu; cases hu
 | array h1 hl hp => rw [h1] at hu; cases hu
theorem HasTy.bool' (hu : P.underlying t = some .bool) (h : HasTy P t row) : ∃ b, row = [.bool b] := by
 cases h with
 | bool h1 => rw [h1] at hu; cases hu; exact ⟨_, rfl⟩
 | int h1 wf => rw [h1] at hu; cases hu
 | str h1 hs hb => rw [h1] at hu; cases hu
 | slice h1 hr hb => rw [h1] at hu; cases hu
 | struct h1 hl hp => rw [h1] at hu; cases hu
 | array h1 hl hp => rw [h1] at hu; cases hu
theorem HasTy.sliceB {e : TypeId} (hu : P.underlying t = some (.slice e)) (h : HasTy P t row) : ∃ rows, row = [.list rows] ∧ (∀ r ∈ rows, HasTy P e r) ∧ rows.length * P.bytesOf e ≤ reachBytes := by
 cases h with
 | slice h1 hr hb => rw [h1] at hu; cases hu; exact ⟨_, rfl, hr, hb⟩
 | bool h1 => rw [h1] at hu; cases hu
 | int h1 wf => rw [h1] at hu; cases hu
 | str h1 hs hb => rw [h1] at hu; cases hu
 | struct h1 hl hp => rw [h1] at hu; cases hu
 | array h1 hl hp => rw [h1] at hu; cases hu
theorem HasTy.struct' {ti : TI} {l : List (Nat × Nat × Nat × Bool)} (ht : tinfo P t = some ti) (hk : ti.kind = .struct l) (h : HasTy P t row) : ∃ parts : List (List PV), row = parts.flatten ∧ parts.length = l.length ∧
  ∀ (i : Nat) (x : Nat × Nat × Nat × Bool) (r : List PV), l[i]? = some x → parts[i]? = some r → HasTy P x.2.1 r := by
 obtain ⟨i, d, h1, h2, rfl⟩ := tinfo_some ht
 obtain ⟨fields, rfl, rfl, _⟩ := tkOf_struct hk
 cases h with
 | bool g => rw [g] at h2; cases h2
 | int g wf => rw [g] at h2; cases h2
 | str g hs hb => rw [g] at h2; cases h2
 | slice g hr hb => rw [g] at h2; cases h2
 | array g hl hp => rw [g] at h2; cases h2
 | struct g hl hp =>
  rw [g] at h2; cases h2
  refine ⟨_, rfl, by simpa using hl, fun i x r hx hr => ?_⟩
  rw [List.getElem?_map, Option.map_eq_some_iff] at hx
  obtain ⟨f, hf, rfl⟩ := hx
  exact hp i f r (by simpa using hf) hr
end
end Go.Pv
