import Derived.Test.YtcllmionhlmjfaaABtS
import Derived.Test.YtcllmionhlmjfaaAQTn
set_option linter.unusedVariables false
set_option linter.unusedSimpArgs false
set_option maxRecDepth 100000
set_option maxHeartbeats 4000000
namespace Go.Proofs.Ytcllmionhlmjfaa
open Go Go.Pv
def x36 : XC := .seq (.reg [⟨some 2,.alloc 24,none⟩]) (.seq (.reg [⟨some 3,.move (.tmp 0),none⟩,⟨some 4,.build 24 #[(0,.const (.int .i64 1)),(1,.tmp 3)],none⟩,⟨none,.store 24 (.tmp 2) (.tmp 4),none⟩]) .ret)
@[simp] theorem x36_s {C e s K} : type_of% (@X_at C e s K _ _ x36.eq_1) := X_at x36.eq_1
def an36 : Ann := ⟨[], [], []⟩
theorem fi36 : FI Try.prog 36 (cxA an36) x36 [.cell 2 24] Try.f36 := fiA Try.func36 mixed
theorem named_law (nm : ByteArray) : CallOK Try.prog 36 [.str nm] [] (.agg (frm (.mk 1 nm []))) [] := by
 refine fi36.os ?_
 ((refine Sg.h ?_); try repeat' ((first | (with_reducible first | refine brA ?_ | refine brE fun _ => ?_ | (refine spl ⟨?_, ?_⟩ <;> intro _))) <;> ((try simp -implicitDefEqProofs); (try simp -implicitDefEqProofs (disch := first | assumption | (try simp only [lens]); omega -splitDisjunctions)))))
 rw [frm_eq]; rfl
def x9_L2 : XC := .seq (.seq (.reg [⟨some 118,.move (.tmp 18),none⟩,⟨some 119,.move (.tmp 10),none⟩,⟨some 120,.call ⟨.builtin .len,#[.tmp 119],#[65]⟩,none⟩,⟨some 121,.binOp .lss 3 (.tmp 118) (.tmp 120) 3,none⟩]) (.cond (.tmp 121) .skip (.exit 2))) (.seq (.block 3 (.seq (.reg [⟨some 124,.move (.tmp 10),none⟩,⟨some 125,.move (.tmp 18),none⟩,⟨some 126,.indexAddr 65 (.tmp 124) (.tmp 125),none⟩,⟨some 127,.load 9 (.tmp 126),none⟩,⟨some 128,.move (.tmp 2),none⟩,⟨some 129,.binOp .neq 9 (.tmp 127) (.tmp 128) 9,none⟩,⟨some 130,.move (.tmp 129),none⟩,⟨some 131,.move (.tmp 14),some (some 130,true)⟩,⟨some 132,.move (.tmp 10),some (some 130,true)⟩,⟨some 133,.move (.tmp 18),some (some 130,true)⟩,⟨some 134,.indexAddr 65 (.tmp 132) (.tmp 133),some (some 130,true)⟩,⟨some 135,.load 9 (.tmp 134),some (some 130,true)⟩,⟨some 136,.call ⟨.value (.func 38),#[.tmp 131,.tmp 135],#[65,9]⟩,some (some 130,true)⟩,⟨some 137,.unOp .not 4 (.tmp 136),some (some 130,true)⟩,⟨some 138,.pick (.tmp 130) (.tmp 137) (.const (.bool false)),none⟩]) (.cond (.tmp 138) (.seq (.reg [⟨some 6,.assign (.const (.bool false)),none⟩]) .ret) .skip))) (.reg [⟨some 122,.move (.tmp 18),none⟩,⟨some 123,.binOp .add 3 (.tmp 122) (.const (.int .i64 1)) 3,none⟩,⟨some 18,.assign (.tmp 123),none⟩]))
def x9_T1 : XC := .seq (.seq (.reg [⟨some 18,.assign (.const (.int .i64 0)),none⟩]) (.bloop 2 x9_L2)) (.seq (.reg [⟨some 6,.assign (.const (.bool true)),none⟩]) .ret)
def x9_L0 : XC := .seq (.seq (.reg [⟨some 85,.move (.tmp 17),none⟩,⟨some 86,.move (.tmp 14),none⟩,⟨some 87,.call ⟨.builtin .len,#[.tmp 86],#[65]⟩,none⟩,⟨some 88,.binOp .lss 3 (.tmp 85) (.tmp 87) 3,none⟩]) (.cond (.tmp 88) .skip (.exit 0))) (.seq (.block 1 (.seq (.reg [⟨some 91,.move (.tmp 10),none⟩,⟨some 92,.move (.tmp 14),none⟩,⟨some 93,.move (.tmp 17),none⟩,⟨some 94,.indexAddr 65 (.tmp 92) (.tmp 93),none⟩,⟨some 95,.load 9 (.tmp 94),none⟩,⟨some 96,.call ⟨.value (.func 38),#[.tmp 91,.tmp 95],#[65,9]⟩,none⟩,⟨some 97,.move (.tmp 96),none⟩,⟨some 98,.move (.tmp 14),some (some 97,true)⟩,⟨some 99,.move (.tmp 17),some (some 97,true)⟩,⟨some 100,.indexAddr 65 (.tmp 98) (.tmp 99),some (some 97,true)⟩,⟨some 101,.load 9 (.tmp 100),some (some 97,true)⟩,⟨some 102,.move (.tmp 2),some (some 97,true)⟩,⟨some 103,.binOp .neq 9 (.tmp 101) (.tmp 102) 9,some (some 97,true)⟩,⟨some 104,.pick (.tmp 97) (.tmp 103) (.const (.bool false)),none⟩,⟨some 105,.unOp .not 4 (.tmp 104),none⟩,⟨some 106,.move (.tmp 105),none⟩,⟨some 107,.move (.tmp 16),some (some 106,true)⟩,⟨some 108,.move (.tmp 107),some (some 106,true)⟩,⟨some 109,.move (.tmp 12),some (some 108,true)⟩,⟨some 110,.move (.tmp 14),some (some 108,true)⟩,⟨some 111,.move (.tmp 17),some (some 108,true)⟩,⟨some 112,.indexAddr 65 (.tmp 110) (.tmp 111),some (some 108,true)⟩,⟨some 113,.load 9 (.tmp 112),some (some 108,true)⟩,⟨some 114,.call ⟨.value (.func 38),#[.tmp 109,.tmp 113],#[65,9]⟩,some (some 108,true)⟩,⟨some 115,.pick (.tmp 108) (.tmp 114) (.const (.bool false)),some (some 106,true)⟩,⟨some 116,.unOp .not 4 (.tmp 115),some (some 106,true)⟩,⟨some 117,.pick (.tmp 106) (.tmp 116) (.const (.bool false)),none⟩]) (.cond (.tmp 117) (.seq (.reg [⟨some 6,.assign (.const (.bool false)),none⟩]) .ret) .skip))) (.reg [⟨some 89,.move (.tmp 17),none⟩,⟨some 90,.binOp .add 3 (.tmp 89) (.const (.int .i64 1)) 3,none⟩,⟨some 17,.assign (.tmp 90),none⟩]))
def x9 : XC := .seq (.reg [⟨some 3,.box 24 (.tmp 0),none⟩,⟨some 4,.box 24 (.tmp 1),none⟩,⟨some 6,.assign (.const (.bool false)),none⟩]) (.seq (.seq (.reg [⟨some 19,.call ⟨.value (.func 11),#[],#[]⟩,none⟩,⟨some 20,.unOp .not 4 (.tmp 19),none⟩]) (.cond (.tmp 20) (.seq (.reg [⟨some 6,.assign (.const (.bool false)),none⟩]) .ret) .skip)) (.seq (.seq (.reg [⟨some 21,.load 24 (.tmp 3),none⟩,⟨some 22,.call ⟨.value (.func 12),#[.tmp 21,.const (.int .i64 0)],#[24,3]⟩,none⟩,⟨some 23,.move (.tmp 22),none⟩,⟨some 24,.load 24 (.tmp 4),some (some 23,false)⟩,⟨some 25,.call ⟨.value (.func 12),#[.tmp 24,.const (.int .i64 0)],#[24,3]⟩,some (some 23,false)⟩,⟨some 26,.pick (.tmp 23) (.const (.bool true)) (.tmp 25),none⟩]) (.cond (.tmp 26) (.seq (.reg [⟨some 6,.assign (.const (.bool true)),none⟩]) .ret) .skip)) (.seq (.drawn 5 [⟨some 28,.load 24 (.tmp 3),none⟩,⟨some 29,.move (.tmp 2),none⟩,⟨some 30,.move (.tmp 2),none⟩,⟨some 31,.call ⟨.value (.func 36),#[.tmp 30],#[9]⟩,none⟩,⟨some 32,.call ⟨.value (.func 35),#[.tmp 28,.tmp 29,.tmp 31],#[24,9,24]⟩,none⟩,⟨some 27,.move (.tmp 32),none⟩,⟨some 33,.extract (.tmp 27) 0,none⟩,⟨some 34,.extract (.tmp 27) 1,none⟩,⟨some 7,.alloc 24,none⟩,⟨some 8,.alloc 29,none⟩,⟨none,.store 24 (.tmp 7) (.tmp 33),none⟩,⟨none,.store 29 (.tmp 8) (.tmp 34),none⟩]) (.seq (.seq (.reg [⟨some 35,.fieldAddr 29 (.tmp 8) 0,none⟩,⟨some 36,.load 3 (.tmp 35),none⟩,⟨some 37,.binOp .eql 3 (.tmp 36) (.const (.int .i64 0)) 3,none⟩,⟨some 38,.move (.tmp 37),none⟩,⟨some 39,.load 24 (.tmp 7),some (some 38,true)⟩,⟨some 40,.load 24 (.tmp 3),some (some 38,true)⟩,⟨some 41,.call ⟨.value (.func 17),#[.tmp 39,.tmp 40],#[24,24]⟩,some (some 38,true)⟩,⟨some 42,.unOp .not 4 (.tmp 41),some (some 38,true)⟩,⟨some 43,.pick (.tmp 38) (.tmp 42) (.const (.bool false)),none⟩]) (.cond (.tmp 43) (.seq (.reg [⟨some 6,.assign (.const (.bool false)),none⟩]) .ret) .skip)) (.seq (.reg [⟨some 45,.load 24 (.tmp 3),none⟩,⟨some 46,.move (.tmp 2),none⟩,⟨some 47,.load 24 (.tmp 4),none⟩,⟨some 48,.call ⟨.value (.func 35),#[.tmp 45,.tmp 46,.tmp 47],#[24,9,24]⟩,none⟩,⟨some 44,.move (.tmp 48),none⟩,⟨some 49,.extract (.tmp 44) 0,none⟩,⟨some 50,.extract (.tmp 44) 1,none⟩,⟨some 9,.alloc 24,none⟩,⟨none,.store 24 (.tmp 9) (.tmp 49),none⟩,⟨none,.store 29 (.tmp 8) (.tmp 50),none⟩]) (.seq (.seq (.reg [⟨some 51,.fieldAddr 29 (.tmp 8) 0,none⟩,⟨some 52,.load 3 (.tmp 51),none⟩,⟨some 53,.binOp .neq 3 (.tmp 52) (.const (.int .i64 0)) 3,none⟩]) (.cond (.tmp 53) (.seq (.reg [⟨some 6,.assign (.const (.bool true)),none⟩]) .ret) .skip)) (.seq (.reg [⟨some 55,.load 24 (.tmp 3),none⟩,⟨some 56,.call ⟨.value (.func 37),#[.tmp 55],#[24]⟩,none⟩,⟨some 54,.move (.tmp 56),none⟩,⟨some 57,.extract (.tmp 54) 0,none⟩,⟨some 58,.extract (.tmp 54) 1,none⟩,⟨some 11,.alloc 29,none⟩,⟨some 10,.assign (.tmp 57),none⟩,⟨none,.store 29 (.tmp 11) (.tmp 58),none⟩]) (.seq (.reg [⟨some 60,.load 24 (.tmp 4),none⟩,⟨some 61,.call ⟨.value (.func 37),#[.tmp 60],#[24]⟩,none⟩,⟨some 59,.move (.tmp 61),none⟩,⟨some 62,.extract (.tmp 59) 0,none⟩,⟨some 63,.extract (.tmp 59) 1,none⟩,⟨some 13,.alloc 29,none⟩,⟨some 12,.assign (.tmp 62),none⟩,⟨none,.store 29 (.tmp 13) (.tmp 63),none⟩]) (.seq (.reg [⟨some 65,.load 24 (.tmp 9),none⟩,⟨some 66,.call ⟨.value (.func 37),#[.tmp 65],#[24]⟩,none⟩,⟨some 64,.move (.tmp 66),none⟩,⟨some 67,.extract (.tmp 64) 0,none⟩,⟨some 68,.extract (.tmp 64) 1,none⟩,⟨some 15,.alloc 29,none⟩,⟨some 14,.assign (.tmp 67),none⟩,⟨none,.store 29 (.tmp 15) (.tmp 68),none⟩]) (.seq (.seq (.reg [⟨some 69,.fieldAddr 29 (.tmp 11) 0,none⟩,⟨some 70,.load 3 (.tmp 69),none⟩,⟨some 71,.binOp .neq 3 (.tmp 70) (.const (.int .i64 0)) 3,none⟩,⟨some 72,.move (.tmp 71),none⟩,⟨some 73,.fieldAddr 29 (.tmp 13) 0,some (some 72,false)⟩,⟨some 74,.load 3 (.tmp 73),some (some 72,false)⟩,⟨some 75,.binOp .neq 3 (.tmp 74) (.const (.int .i64 0)) 3,some (some 72,false)⟩,⟨some 76,.pick (.tmp 72) (.const (.bool true)) (.tmp 75),none⟩,⟨some 77,.move (.tmp 76),none⟩,⟨some 78,.fieldAddr 29 (.tmp 15) 0,some (some 77,false)⟩,⟨some 79,.load 3 (.tmp 78),some (some 77,false)⟩,⟨some 80,.binOp .neq 3 (.tmp 79) (.const (.int .i64 0)) 3,some (some 77,false)⟩,⟨some 81,.pick (.tmp 77) (.const (.bool true)) (.tmp 80),none⟩]) (.cond (.tmp 81) (.seq (.reg [⟨some 6,.assign (.const (.bool false)),none⟩]) .ret) .skip)) (.seq (.reg [⟨some 82,.move (.tmp 10),none⟩,⟨some 83,.move (.tmp 2),none⟩,⟨some 84,.call ⟨.value (.func 38),#[.tmp 82,.tmp 83],#[65,9]⟩,none⟩,⟨some 16,.assign (.tmp 84),none⟩]) (.seq (.seq (.reg [⟨some 17,.assign (.const (.int .i64 0)),none⟩]) (.bloop 0 x9_L0)) (x9_T1)))))))))))))
@[simp] theorem x9_s {C e s K} : type_of% (@X_at C e s K _ _ x9_L2.eq_1) ∧ type_of% (@X_at C e s K _ _ x9_T1.eq_1) ∧ type_of% (@X_at C e s K _ _ x9_L0.eq_1) ∧ type_of% (@X_at C e s K _ _ x9.eq_1) := ⟨X_at x9_L2.eq_1, X_at x9_T1.eq_1, X_at x9_L0.eq_1, X_at x9.eq_1⟩
@[simp] def tr9_5 : MT := .op 0 (.op 1 (.op 2 (.br (.op 3 (.ck 0 (.br (.op 4 (.op 5 (.op 6 (.op 7 (.br (.op 8 (.op 9 (.op 10 (.op 11 .fin)))) (.op 9 (.op 8 (.op 10 (.op 11 .fin))))))))) (.br (.op 8 (.ck 0 (.br (.op 4 (.op 5 (.op 6 (.op 7 (.op 9 (.op 10 (.op 11 .fin))))))) (.op 9 (.ck 0 (.op 4 (.op 5 (.op 6 (.op 7 (.op 10 (.op 11 .fin))))))))))) (.op 9 (.ck 0 (.br (.op 4 (.op 5 (.op 6 (.op 7 (.op 8 (.op 10 (.op 11 .fin))))))) (.op 8 (.ck 0 (.op 4 (.op 5 (.op 6 (.op 7 (.op 10 (.op 11 .fin))))))))))))))) (.br (.op 8 (.ck 0 (.br (.op 3 (.ck 0 (.br (.op 4 (.op 5 (.op 6 (.op 7 (.op 9 (.op 10 (.op 11 .fin))))))) (.op 9 (.ck 0 (.op 4 (.op 5 (.op 6 (.op 7 (.op 10 (.op 11 .fin))))))))))) (.op 9 (.ck 0 (.op 3 (.ck 0 (.op 4 (.op 5 (.op 6 (.op 7 (.op 10 (.op 11 .fin))))))))))))) (.op 9 (.ck 0 (.br (.op 3 (.ck 0 (.br (.op 4 (.op 5 (.op 6 (.op 7 (.op 8 (.op 10 (.op 11 .fin))))))) (.op 8 (.ck 0 (.op 4 (.op 5 (.op 6 (.op 7 (.op 10 (.op 11 .fin))))))))))) (.op 8 (.ck 0 (.op 3 (.ck 0 (.op 4 (.op 5 (.op 6 (.op 7 (.op 10 (.op 11 .fin)))))))))))))))))
def an9 : Ann := ⟨[(5, .tree tr9_5)], [(2, [], [2, 10, 14, 18], [6]), (0, [], [2, 10, 12, 14, 16, 17], [2, 6, 10, 14])], []⟩
@[simp] theorem an9_a : an9.clsOf 5 = .tree tr9_5 ∧ an9.frzOf 5 = [] ∧ an9.loopOf 2 = ([], [2, 10, 14, 18], [6]) ∧ an9.loopOf 0 = ([], [2, 10, 12, 14, 16, 17], [2, 6, 10, 14]) := ⟨rfl, rfl, rfl, rfl⟩
theorem fi9 : FI Try.prog 9 (cxA an9) x9 [.tmp 6] Try.f9 := fiA Try.func9 mixed
theorem swaps_tail (nm : ByteArray) (A B C : List ByteArray) (hmem : ∀ x, x ∈ C ↔ (x ∈ A ∧ x ≠ nm) ∨ (nm ∈ A ∧ x ∈ B)) : W ((cxA an9) Try.prog 0) 0 x9_L0 (KS.seq x9_T1 (KS.fin [ResultVar.tmp 6] fun v1 s1 => deref s1 6 v1 = PV.bool true)) [(2, PV.str nm), (10, PV.list (A.map strRow)), (12, PV.list (B.map strRow)), (14, PV.list (C.map strRow)), (16, PV.bool (memB nm A)), (17, PV.int .i64 0)] [] := by
 refine W_of fun Q hQ => ?_
 have main : ∀ r i, i + r = C.length → Q [(2, PV.str nm), (10, PV.list (A.map strRow)), (12, PV.list (B.map strRow)), (14, PV.list (C.map strRow)), (16, PV.bool (memB nm A)), (17, PV.int .i64 (i : Int))] [] := by
  intro r
  induction r with
  | zero =>
   intro i hi
   obtain rfl : i = C.length := by omega
   apply hQ
   clear hQ
   ((refine Sg.h ?_); try repeat' ((first | (with_reducible first | refine brA ?_ | refine brE fun _ => ?_ | (refine spl ⟨?_, ?_⟩ <;> intro _))) <;> ((try simp -implicitDefEqProofs); (try simp -implicitDefEqProofs (disch := first | assumption | (try simp only [lens]); omega -splitDisjunctions)))))
   refine W_of fun Q2 hQ2 => ?_
   have main2 : ∀ r i, i + r = A.length → Q2 [(2, PV.str nm), (10, PV.list (A.map strRow)), (14, PV.list (C.map strRow)), (18, PV.int .i64 (i : Int))] [] := by
    intro r
    induction r with
    | zero =>
     intro i hi
     obtain rfl : i = A.length := by omega
     apply hQ2
     clear hQ2
     ((refine Sg.h ?_); try repeat' ((first | (with_reducible first | refine brA ?_ | refine brE fun _ => ?_ | (refine spl ⟨?_, ?_⟩ <;> intro _))) <;> ((try simp -implicitDefEqProofs); (try simp -implicitDefEqProofs (disch := first | assumption | (try simp only [lens]); omega -splitDisjunctions)))))
    | succ r ih =>
     intro i hi
     have hil : i < A.length := by omega
     have ih := ih (i + 1) (by omega)
     have h1 := HasText_ref C A[i]
     apply hQ2
     clear hQ2
     by_cases hx : A[i] = nm
     ·((refine Sg.h ?_); try repeat' ((first | (with_reducible first | refine brA ?_ | refine brE fun _ => ?_ | (refine spl ⟨?_, ?_⟩ <;> intro _))) <;> ((try simp -implicitDefEqProofs [hil, hx]); (try simp -implicitDefEqProofs (disch := first | assumption | (try simp only [lens]); omega -splitDisjunctions) [hil, hx]))))
      all_goals first | exact ih | (refine at2 ih ?_ ?_ <;> simp; done) | (exfalso; first | omega | (simp_all; done) | (simp_all; omega))
     ·have hc : memB A[i] C = true := memB_iff.2 ((hmem _).2 (.inl ⟨List.getElem_mem hil, hx⟩))
      rw [hc] at h1
      ((refine Sg.h ?_); try repeat' ((first | (with_reducible first | refine brA ?_ | refine brE fun _ => ?_ | (refine spl ⟨?_, ?_⟩ <;> intro _)) | refine clo h1 ?_) <;> ((try simp -implicitDefEqProofs [hil, hx]); (try simp -implicitDefEqProofs (disch := first | assumption | (try simp only [lens]); omega -splitDisjunctions) [hil, hx]))))
      all_goals first | exact ih | (refine at2 ih ?_ ?_ <;> simp; done) | (exfalso; first | omega | (simp_all; done) | (simp_all; omega))
   all_goals first | exact main2 _ 0 (Nat.zero_add _) | (refine at2 main2 _ 0 (Nat.zero_add _) ?_ ?_ <;> simp; done) | (exfalso; first | omega | (simp_all; done) | (simp_all; omega))
  | succ r ih =>
   intro i hi
   have hil : i < C.length := by omega
   have ih := ih (i + 1) (by omega)
   have h1 := HasText_ref A C[i]
   have h2 := HasText_ref B C[i]
   have hm := (hmem C[i]).1 (List.getElem_mem hil)
   apply hQ
   clear hQ
   cases ha : memB C[i] A with
   | true =>
    rw [ha] at h1
    by_cases hx : C[i] = nm
    ·have hb : memB C[i] B = true ∧ memB nm A = true := by
      rcases hm with ⟨_, h⟩ | ⟨h3, h4⟩
      ·exact absurd hx h
      ·exact ⟨memB_iff.2 h4, memB_iff.2 h3⟩
     rw [hb.1] at h2
     rw [hb.2] at ih ⊢
     rw [hx] at h1 h2
     ((refine Sg.h ?_); try repeat' ((first | (with_reducible first | refine brA ?_ | refine brE fun _ => ?_ | (refine spl ⟨?_, ?_⟩ <;> intro _)) | refine clo h1 ?_ | refine clo h2 ?_) <;> ((try simp -implicitDefEqProofs [hil, hx]); (try simp -implicitDefEqProofs (disch := first | assumption | (try simp only [lens]); omega -splitDisjunctions) [hil, hx]))))
     all_goals first | exact ih | (refine at2 ih ?_ ?_ <;> simp; done) | (exfalso; first | omega | (simp_all; done) | (simp_all; omega))
    ·((refine Sg.h ?_); try repeat' ((first | (with_reducible first | refine brA ?_ | refine brE fun _ => ?_ | (refine spl ⟨?_, ?_⟩ <;> intro _)) | refine clo h1 ?_) <;> ((try simp -implicitDefEqProofs [hil, hx]); (try simp -implicitDefEqProofs (disch := first | assumption | (try simp only [lens]); omega -splitDisjunctions) [hil, hx]))))
     all_goals first | exact ih | (refine at2 ih ?_ ?_ <;> simp; done) | (exfalso; first | omega | (simp_all; done) | (simp_all; omega))
   | false =>
    rw [ha] at h1
    have hb : memB C[i] B = true ∧ memB nm A = true := by
     rcases hm with ⟨h, _⟩ | ⟨h3, h4⟩
     ·rw [memB_iff.2 h] at ha; cases ha
     ·exact ⟨memB_iff.2 h4, memB_iff.2 h3⟩
    rw [hb.1] at h2
    rw [hb.2] at ih ⊢
    ((refine Sg.h ?_); try repeat' ((first | (with_reducible first | refine brA ?_ | refine brE fun _ => ?_ | (refine spl ⟨?_, ?_⟩ <;> intro _)) | refine clo h1 ?_ | refine clo h2 ?_) <;> ((try simp -implicitDefEqProofs [hil]); (try simp -implicitDefEqProofs (disch := first | assumption | (try simp only [lens]); omega -splitDisjunctions) [hil]))))
    all_goals first | exact ih | (refine at2 ih ?_ ?_ <;> simp; done) | (exfalso; first | omega | (simp_all; done) | (simp_all; omega))
 exact main _ 0 (Nat.zero_add _)
theorem formulaSwaps_law (f g : Fm) (nm : ByteArray) : CallOK Try.prog 9 [.agg (frm f), .agg (frm g), .str nm] [] (.bool true) [] := by
 have hb := formulaBegun_law
 have v1 := vast_ref f 0 (by decide) (by decide) []
 have v2 := vast_ref g 0 (by decide) (by decide) []
 refine fi9.op ?_
 cases hv1 : vastB f 0 with
 | true =>
  rw [hv1] at v1
  ((refine Sg.h ?_); try repeat' ((first | (with_reducible first | refine brA ?_ | refine brE fun _ => ?_ | (refine spl ⟨?_, ?_⟩ <;> intro _)) | refine clo hb ?_ | refine clo v1 ?_) <;> ((try simp -implicitDefEqProofs); (try simp -implicitDefEqProofs (disch := first | assumption | (try simp only [lens]); omega -splitDisjunctions)))))
 | false =>
  rw [hv1] at v1
  cases hv2 : vastB g 0 with
  | true =>
   rw [hv2] at v2
   ((refine Sg.h ?_); try repeat' ((first | (with_reducible first | refine brA ?_ | refine brE fun _ => ?_ | (refine spl ⟨?_, ?_⟩ <;> intro _)) | refine clo hb ?_ | refine clo v1 ?_ | refine clo v2 ?_) <;> ((try simp -implicitDefEqProofs); (try simp -implicitDefEqProofs (disch := first | assumption | (try simp only [lens]); omega -splitDisjunctions)))))
  | false =>
   rw [hv2] at v2
   have hnm := named_law nm
   have hp1 := Put_formula nm f (.mk 1 nm [])
   have hp2 := Put_formula nm f g
   have hs1 := Same_ref (putV nm f (.mk 1 nm [])).1 f
   have hsame : (putV nm f (.mk 1 nm [])).2.1 = 0 → sameB (putV nm f (.mk 1 nm [])).1 f = true := fun h => by
    obtain ⟨c1, c2, e, _⟩ := put_zero h
    rw [e]
    exact sameB_iff.2 (with_self nm f (td_check c1).ok)
   obtain ⟨⟨s1, c1, a1⟩, hR1⟩ : ∃ R, putV nm f (.mk 1 nm []) = R := ⟨_, rfl⟩
   rw [hR1] at hp1 hs1 hsame
   dsimp only at hp1 hs1 hsame
   obtain ⟨⟨s2, c2, a2⟩, hR2⟩ : ∃ R, putV nm f g = R := ⟨_, rfl⟩
   have hz := put_zero (nm := nm) (f := f) (g := g)
   rw [hR2] at hp2 hz
   dsimp only at hp2 hz
   generalize (Fm.mk 1 nm []) = w at *
   clear hR1 hR2
   by_cases k2 : c2 = 0
   ·obtain ⟨cf, cg, e2, ch⟩ := hz k2
    simp only [Prod.mk.injEq] at e2
    obtain ⟨rfl, rfl, rfl⟩ := e2
    have hmem : ∀ x, x ∈ namesS [withF nm g f] ↔ (x ∈ namesS [f] ∧ x ≠ nm) ∨ (nm ∈ namesS [f] ∧ x ∈ namesS [g]) := fun x => by
     rw [names_mem ch, names_mem cf, names_mem cf, names_mem cg]
     exact vars_with nm g x f (td_check cf).ok
    have n1 := Names_ok f (formulaCheck_zero cf)
    have n2 := Names_ok g (formulaCheck_zero cg)
    have n3 := Names_ok _ (formulaCheck_zero ch)
    have t0 := fun x => HasText_ref (namesS [f]) x
    have t1 := fun x => HasText_ref (namesS [g]) x
    have t2 := fun x => HasText_ref (namesS [withF nm g f]) x
    generalize namesS [f] = A at *
    generalize namesS [g] = B at *
    generalize namesS [withF nm g f] = C at *
    generalize withF nm g f = h at *
    clear hz ch cf cg hv1 hv2
    have t0 := t0 nm
    have tl := swaps_tail nm A B C hmem
    clear hmem t1 t2
    generalize memB nm A = Z at *
    by_cases k1 : c1 = 0
    ·rw [hsame k1] at hs1
     subst k1
     ((refine Sg.h ?_); try repeat' ((first | (with_reducible first | refine brA ?_ | refine brE fun _ => ?_ | (refine spl ⟨?_, ?_⟩ <;> intro _)) | refine clo hb ?_ | refine clo v1 ?_ | refine clo v2 ?_ | refine clo hnm ?_ | refine clo hp1 ?_) <;> ((try simp -implicitDefEqProofs); (try simp -implicitDefEqProofs (disch := first | assumption | (try simp only [lens]); omega -splitDisjunctions)))))
     repeat' (first | refine And.intro ?_ ?_ | (refine clo hnm ?_; ((refine Sg.h ?_); try repeat' ((first | (with_reducible first | refine brA ?_ | refine brE fun _ => ?_ | (refine spl ⟨?_, ?_⟩ <;> intro _))) <;> ((try simp -implicitDefEqProofs); (try simp -implicitDefEqProofs (disch := first | assumption | (try simp only [lens]); omega -splitDisjunctions)))))) | (refine clo hp1 ?_; ((refine Sg.h ?_); try repeat' ((first | (with_reducible first | refine brA ?_ | refine brE fun _ => ?_ | (refine spl ⟨?_, ?_⟩ <;> intro _))) <;> ((try simp -implicitDefEqProofs); (try simp -implicitDefEqProofs (disch := first | assumption | (try simp only [lens]); omega -splitDisjunctions)))))))
     all_goals (((refine Sg.h ?_); try repeat' ((first | (with_reducible first | refine brA ?_ | refine brE fun _ => ?_ | (refine spl ⟨?_, ?_⟩ <;> intro _)) | refine clo hs1 ?_ | refine clo hp2 ?_ | refine clo n1 ?_ | refine clo n2 ?_ | refine clo n3 ?_ | refine clo t0 ?_) <;> ((try simp -implicitDefEqProofs); (try simp -implicitDefEqProofs (disch := first | assumption | (try simp only [lens]); omega -splitDisjunctions))))))
     all_goals exact tl
    ·((refine Sg.h ?_); try repeat' ((first | (with_reducible first | refine brA ?_ | refine brE fun _ => ?_ | (refine spl ⟨?_, ?_⟩ <;> intro _)) | refine clo hb ?_ | refine clo v1 ?_ | refine clo v2 ?_ | refine clo hnm ?_ | refine clo hp1 ?_) <;> ((try simp -implicitDefEqProofs); (try simp -implicitDefEqProofs (disch := first | assumption | (try simp only [lens]); omega -splitDisjunctions)))))
     repeat' (first | refine And.intro ?_ ?_ | (refine clo hnm ?_; ((refine Sg.h ?_); try repeat' ((first | (with_reducible first | refine brA ?_ | refine brE fun _ => ?_ | (refine spl ⟨?_, ?_⟩ <;> intro _))) <;> ((try simp -implicitDefEqProofs); (try simp -implicitDefEqProofs (disch := first | assumption | (try simp only [lens]); omega -splitDisjunctions)))))) | (refine clo hp1 ?_; ((refine Sg.h ?_); try repeat' ((first | (with_reducible first | refine brA ?_ | refine brE fun _ => ?_ | (refine spl ⟨?_, ?_⟩ <;> intro _))) <;> ((try simp -implicitDefEqProofs); (try simp -implicitDefEqProofs (disch := first | assumption | (try simp only [lens]); omega -splitDisjunctions)))))))
     all_goals (((refine Sg.h ?_); try repeat' ((first | (with_reducible first | refine brA ?_ | refine brE fun _ => ?_ | (refine spl ⟨?_, ?_⟩ <;> intro _)) | refine clo hs1 ?_ | refine clo hp2 ?_ | refine clo n1 ?_ | refine clo n2 ?_ | refine clo n3 ?_ | refine clo t0 ?_) <;> ((try simp -implicitDefEqProofs [k1]); (try simp -implicitDefEqProofs (disch := first | assumption | (try simp only [lens]); omega -splitDisjunctions) [k1])))))
     all_goals exact tl
   ·by_cases k1 : c1 = 0
    ·rw [hsame k1] at hs1
     subst k1
     ((refine Sg.h ?_); try repeat' ((first | (with_reducible first | refine brA ?_ | refine brE fun _ => ?_ | (refine spl ⟨?_, ?_⟩ <;> intro _)) | refine clo hb ?_ | refine clo v1 ?_ | refine clo v2 ?_ | refine clo hnm ?_ | refine clo hp1 ?_) <;> ((try simp -implicitDefEqProofs); (try simp -implicitDefEqProofs (disch := first | assumption | (try simp only [lens]); omega -splitDisjunctions)))))
     repeat' (first | refine And.intro ?_ ?_ | (refine clo hnm ?_; ((refine Sg.h ?_); try repeat' ((first | (with_reducible first | refine brA ?_ | refine brE fun _ => ?_ | (refine spl ⟨?_, ?_⟩ <;> intro _))) <;> ((try simp -implicitDefEqProofs); (try simp -implicitDefEqProofs (disch := first | assumption | (try simp only [lens]); omega -splitDisjunctions)))))) | (refine clo hp1 ?_; ((refine Sg.h ?_); try repeat' ((first | (with_reducible first | refine brA ?_ | refine brE fun _ => ?_ | (refine spl ⟨?_, ?_⟩ <;> intro _))) <;> ((try simp -implicitDefEqProofs); (try simp -implicitDefEqProofs (disch := first | assumption | (try simp only [lens]); omega -splitDisjunctions)))))))
     all_goals (((refine Sg.h ?_); try repeat' ((first | (with_reducible first | refine brA ?_ | refine brE fun _ => ?_ | (refine spl ⟨?_, ?_⟩ <;> intro _)) | refine clo hs1 ?_ | refine clo hp2 ?_) <;> ((try simp -implicitDefEqProofs [k2]); (try simp -implicitDefEqProofs (disch := first | assumption | (try simp only [lens]); omega -splitDisjunctions) [k2])))))
    ·((refine Sg.h ?_); try repeat' ((first | (with_reducible first | refine brA ?_ | refine brE fun _ => ?_ | (refine spl ⟨?_, ?_⟩ <;> intro _)) | refine clo hb ?_ | refine clo v1 ?_ | refine clo v2 ?_ | refine clo hnm ?_ | refine clo hp1 ?_) <;> ((try simp -implicitDefEqProofs); (try simp -implicitDefEqProofs (disch := first | assumption | (try simp only [lens]); omega -splitDisjunctions)))))
     repeat' (first | refine And.intro ?_ ?_ | (refine clo hnm ?_; ((refine Sg.h ?_); try repeat' ((first | (with_reducible first | refine brA ?_ | refine brE fun _ => ?_ | (refine spl ⟨?_, ?_⟩ <;> intro _))) <;> ((try simp -implicitDefEqProofs); (try simp -implicitDefEqProofs (disch := first | assumption | (try simp only [lens]); omega -splitDisjunctions)))))) | (refine clo hp1 ?_; ((refine Sg.h ?_); try repeat' ((first | (with_reducible first | refine brA ?_ | refine brE fun _ => ?_ | (refine spl ⟨?_, ?_⟩ <;> intro _))) <;> ((try simp -implicitDefEqProofs); (try simp -implicitDefEqProofs (disch := first | assumption | (try simp only [lens]); omega -splitDisjunctions)))))))
     all_goals (((refine Sg.h ?_); try repeat' ((first | (with_reducible first | refine brA ?_ | refine brE fun _ => ?_ | (refine spl ⟨?_, ?_⟩ <;> intro _)) | refine clo hs1 ?_ | refine clo hp2 ?_) <;> ((try simp -implicitDefEqProofs [k1, k2]); (try simp -implicitDefEqProofs (disch := first | assumption | (try simp only [lens]); omega -splitDisjunctions) [k1, k2])))))
end Go.Proofs.Ytcllmionhlmjfaa
