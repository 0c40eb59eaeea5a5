import Derived.Test.YtnoklmapofogeaaSCcH
import Derived.Test.YtnoklmapofogeaaSTPa
import Derived.Test.YtnoklmapofogeaaSCcA
import Derived.Test.YtnoklmapofogeaaSCcW
import Derived.Test.YtnoklmapofogeaaSPvQg
set_option linter.unusedVariables false
set_option linter.unusedSimpArgs false
set_option maxRecDepth 100000
set_option maxHeartbeats 40000000
namespace Go.Proofs.Ytnoklmapofogeaa
open Go Go.Pv
mutual
def vastP : Pf → Int → Bool
 | .mk a f l r ks, d => decide (1200 < d) || (decide (1200 < ks.length) || (decide (300 < l.length) || (decide (300 < r.length) || (vastB f 0 || (vastsB l 0 || (vastsB r 0 || vastPs ks (d + 1)))))))
def vastPs : List Pf → Int → Bool
 | [], _ => false
 | p :: r, d => vastP p d || vastPs r d
end
theorem vastP_eq (p : Pf) (d : Int) : vastP p d = (decide (1200 < d) || (decide (1200 < p.kids.length) || (decide (300 < p.l.length) || (decide (300 < p.r.length) || (vastB p.f 0 || (vastsB p.l 0 || (vastsB p.r 0 || vastPs p.kids (d + 1)))))))) := by
 cases p with | mk a f l r ks => rw [vastP]; rfl
theorem vastsD {l : List Fm} {i : Nat} {d : Int} (h : i < l.length) : vastsB (l.drop i) d = (vastB l[i] d || vastsB (l.drop (i + 1)) d) := by
 rw [List.drop_eq_getElem_cons h, vastsB]
theorem vastPs_drop {l : List Pf} {i : Nat} {d : Int} (h : i < l.length) : vastPs (l.drop i) d = (vastP l[i] d || vastPs (l.drop (i + 1)) d) := by
 rw [List.drop_eq_getElem_cons h, vastPs]
def x15_L4 : XC := .seq (.seq (.reg [⟨some 65,.move (.tmp 7),none⟩,⟨some 66,.fieldAddr 29 (.tmp 2) 3,none⟩,⟨some 67,.load 27 (.tmp 66),none⟩,⟨some 68,.call ⟨.builtin .len,#[.tmp 67],#[27]⟩,none⟩,⟨some 69,.binOp .lss 3 (.tmp 65) (.tmp 68) 3,none⟩]) (.cond (.tmp 69) .skip (.exit 4))) (.seq (.block 5 (.seq (.reg [⟨some 72,.fieldAddr 29 (.tmp 2) 3,none⟩,⟨some 73,.load 27 (.tmp 72),none⟩,⟨some 74,.move (.tmp 7),none⟩,⟨some 75,.indexAddr 27 (.tmp 73) (.tmp 74),none⟩,⟨some 76,.load 29 (.tmp 75),none⟩,⟨some 77,.move (.tmp 1),none⟩,⟨some 78,.binOp .add 3 (.tmp 77) (.const (.int .i64 1)) 3,none⟩,⟨some 79,.call ⟨.value (.func 15),#[.tmp 76,.tmp 78],#[29,3]⟩,none⟩]) (.cond (.tmp 79) (.seq (.reg [⟨some 4,.assign (.const (.bool true)),none⟩]) .ret) .skip))) (.reg [⟨some 70,.move (.tmp 7),none⟩,⟨some 71,.binOp .add 3 (.tmp 70) (.const (.int .i64 1)) 3,none⟩,⟨some 7,.assign (.tmp 71),none⟩]))
def x15_T3 : XC := .seq (.seq (.reg [⟨some 7,.assign (.const (.int .i64 0)),none⟩]) (.bloop 4 x15_L4)) (.seq (.reg [⟨some 4,.assign (.const (.bool false)),none⟩]) .ret)
def x15_L2 : XC := .seq (.seq (.reg [⟨some 50,.move (.tmp 6),none⟩,⟨some 51,.fieldAddr 29 (.tmp 2) 2,none⟩,⟨some 52,.fieldAddr 26 (.tmp 51) 1,none⟩,⟨some 53,.load 22 (.tmp 52),none⟩,⟨some 54,.call ⟨.builtin .len,#[.tmp 53],#[22]⟩,none⟩,⟨some 55,.binOp .lss 3 (.tmp 50) (.tmp 54) 3,none⟩]) (.cond (.tmp 55) .skip (.exit 2))) (.seq (.block 3 (.seq (.reg [⟨some 58,.fieldAddr 29 (.tmp 2) 2,none⟩,⟨some 59,.fieldAddr 26 (.tmp 58) 1,none⟩,⟨some 60,.load 22 (.tmp 59),none⟩,⟨some 61,.move (.tmp 6),none⟩,⟨some 62,.indexAddr 22 (.tmp 60) (.tmp 61),none⟩,⟨some 63,.load 24 (.tmp 62),none⟩,⟨some 64,.call ⟨.value (.func 20),#[.tmp 63,.const (.int .i64 0)],#[24,3]⟩,none⟩]) (.cond (.tmp 64) (.seq (.reg [⟨some 4,.assign (.const (.bool true)),none⟩]) .ret) .skip))) (.reg [⟨some 56,.move (.tmp 6),none⟩,⟨some 57,.binOp .add 3 (.tmp 56) (.const (.int .i64 1)) 3,none⟩,⟨some 6,.assign (.tmp 57),none⟩]))
def x15_T1 : XC := .seq (.seq (.reg [⟨some 6,.assign (.const (.int .i64 0)),none⟩]) (.bloop 2 x15_L2)) (x15_T3)
def x15_L0 : XC := .seq (.seq (.reg [⟨some 35,.move (.tmp 5),none⟩,⟨some 36,.fieldAddr 29 (.tmp 2) 2,none⟩,⟨some 37,.fieldAddr 26 (.tmp 36) 0,none⟩,⟨some 38,.load 22 (.tmp 37),none⟩,⟨some 39,.call ⟨.builtin .len,#[.tmp 38],#[22]⟩,none⟩,⟨some 40,.binOp .lss 3 (.tmp 35) (.tmp 39) 3,none⟩]) (.cond (.tmp 40) .skip (.exit 0))) (.seq (.block 1 (.seq (.reg [⟨some 43,.fieldAddr 29 (.tmp 2) 2,none⟩,⟨some 44,.fieldAddr 26 (.tmp 43) 0,none⟩,⟨some 45,.load 22 (.tmp 44),none⟩,⟨some 46,.move (.tmp 5),none⟩,⟨some 47,.indexAddr 22 (.tmp 45) (.tmp 46),none⟩,⟨some 48,.load 24 (.tmp 47),none⟩,⟨some 49,.call ⟨.value (.func 20),#[.tmp 48,.const (.int .i64 0)],#[24,3]⟩,none⟩]) (.cond (.tmp 49) (.seq (.reg [⟨some 4,.assign (.const (.bool true)),none⟩]) .ret) .skip))) (.reg [⟨some 41,.move (.tmp 5),none⟩,⟨some 42,.binOp .add 3 (.tmp 41) (.const (.int .i64 1)) 3,none⟩,⟨some 5,.assign (.tmp 42),none⟩]))
def x15 : XC := .seq (.reg [⟨some 2,.box 29 (.tmp 0),none⟩,⟨some 4,.assign (.const (.bool false)),none⟩]) (.seq (.seq (.reg [⟨some 8,.move (.tmp 1),none⟩,⟨some 9,.binOp .gtr 3 (.tmp 8) (.const (.int .i64 1200)) 3,none⟩,⟨some 10,.move (.tmp 9),none⟩,⟨some 11,.fieldAddr 29 (.tmp 2) 3,some (some 10,false)⟩,⟨some 12,.load 27 (.tmp 11),some (some 10,false)⟩,⟨some 13,.call ⟨.builtin .len,#[.tmp 12],#[27]⟩,some (some 10,false)⟩,⟨some 14,.binOp .gtr 3 (.tmp 13) (.const (.int .i64 1200)) 3,some (some 10,false)⟩,⟨some 15,.pick (.tmp 10) (.const (.bool true)) (.tmp 14),none⟩,⟨some 16,.move (.tmp 15),none⟩,⟨some 17,.fieldAddr 29 (.tmp 2) 2,some (some 16,false)⟩,⟨some 18,.fieldAddr 26 (.tmp 17) 0,some (some 16,false)⟩,⟨some 19,.load 22 (.tmp 18),some (some 16,false)⟩,⟨some 20,.call ⟨.builtin .len,#[.tmp 19],#[22]⟩,some (some 16,false)⟩,⟨some 21,.binOp .gtr 3 (.tmp 20) (.const (.int .i64 300)) 3,some (some 16,false)⟩,⟨some 22,.pick (.tmp 16) (.const (.bool true)) (.tmp 21),none⟩,⟨some 23,.move (.tmp 22),none⟩,⟨some 24,.fieldAddr 29 (.tmp 2) 2,some (some 23,false)⟩,⟨some 25,.fieldAddr 26 (.tmp 24) 1,some (some 23,false)⟩,⟨some 26,.load 22 (.tmp 25),some (some 23,false)⟩,⟨some 27,.call ⟨.builtin .len,#[.tmp 26],#[22]⟩,some (some 23,false)⟩,⟨some 28,.binOp .gtr 3 (.tmp 27) (.const (.int .i64 300)) 3,some (some 23,false)⟩,⟨some 29,.pick (.tmp 23) (.const (.bool true)) (.tmp 28),none⟩,⟨some 30,.move (.tmp 29),none⟩,⟨some 31,.fieldAddr 29 (.tmp 2) 1,some (some 30,false)⟩,⟨some 32,.load 24 (.tmp 31),some (some 30,false)⟩,⟨some 33,.call ⟨.value (.func 20),#[.tmp 32,.const (.int .i64 0)],#[24,3]⟩,some (some 30,false)⟩,⟨some 34,.pick (.tmp 30) (.const (.bool true)) (.tmp 33),none⟩]) (.cond (.tmp 34) (.seq (.reg [⟨some 4,.assign (.const (.bool true)),none⟩]) .ret) .skip)) (.seq (.seq (.reg [⟨some 5,.assign (.const (.int .i64 0)),none⟩]) (.bloop 0 x15_L0)) (x15_T1)))
@[simp] theorem x15_s {C e s K} : type_of% (@X_at C e s K _ _ x15_L4.eq_1) ∧ type_of% (@X_at C e s K _ _ x15_T3.eq_1) ∧ type_of% (@X_at C e s K _ _ x15_L2.eq_1) ∧ type_of% (@X_at C e s K _ _ x15_T1.eq_1) ∧ type_of% (@X_at C e s K _ _ x15_L0.eq_1) ∧ type_of% (@X_at C e s K _ _ x15.eq_1) := ⟨X_at x15_L4.eq_1, X_at x15_T3.eq_1, X_at x15_L2.eq_1, X_at x15_T1.eq_1, X_at x15_L0.eq_1, X_at x15.eq_1⟩
def an15 : Ann := ⟨[], [(4, [], [1, 2, 7], [4]), (2, [], [1, 2, 6], [1, 2, 4]), (0, [], [1, 2, 5], [1, 2, 4])], []⟩
@[simp] theorem an15_a : an15.loopOf 4 = ([], [1, 2, 7], [4]) ∧ an15.loopOf 2 = ([], [1, 2, 6], [1, 2, 4]) ∧ an15.loopOf 0 = ([], [1, 2, 5], [1, 2, 4]) := ⟨rfl, rfl, rfl⟩
theorem fi15 : FI Try.prog 15 (cxA an15) x15 [.tmp 4] Try.f15 := fiA Try.func15 mixed
theorem VastProof_ref (p : Pf) : ∀ d : Int, 0 ≤ d → d ≤ 1201 → CallOK Try.prog 15 [.agg (prf p), .int .i64 d] [] (.bool (vastP p d)) [] := by
 induction p using Pf.ind with
 | h p ih =>
  intro d hd0 hd1
  have hv := fun f => vast_ref f 0 (by decide) (by decide) []
  refine fi15.op ?_
  rw [vastP_eq]
  by_cases h1 : 1200 < d
  ·((refine Sg.h ?_); try repeat' ((first | (with_reducible first | refine brA ?_ | refine brE fun _ => ?_ | (refine spl ⟨?_, ?_⟩ <;> intro _))) <;> ((try simp -implicitDefEqProofs [h1]); (try simp -implicitDefEqProofs (disch := first | assumption | (try simp only [lens]); omega -splitDisjunctions) [h1]))))
  ·by_cases h2 : 1200 < p.kids.length
   ·have h2i : (1200 : Int) < (p.kids.length : Int) := by omega
    ((refine Sg.h ?_); try repeat' ((first | (with_reducible first | refine brA ?_ | refine brE fun _ => ?_ | (refine spl ⟨?_, ?_⟩ <;> intro _))) <;> ((try simp -implicitDefEqProofs [h1, h2, h2i]); (try simp -implicitDefEqProofs (disch := first | assumption | (try simp only [lens]); omega -splitDisjunctions) [h1, h2, h2i]))))
   ·have h2i : ¬ (1200 : Int) < (p.kids.length : Int) := by omega
    by_cases h3 : 300 < p.l.length
    ·have h3i : (300 : Int) < (p.l.length : Int) := by omega
     ((refine Sg.h ?_); try repeat' ((first | (with_reducible first | refine brA ?_ | refine brE fun _ => ?_ | (refine spl ⟨?_, ?_⟩ <;> intro _))) <;> ((try simp -implicitDefEqProofs [h1, h2, h2i, h3, h3i]); (try simp -implicitDefEqProofs (disch := first | assumption | (try simp only [lens]); omega -splitDisjunctions) [h1, h2, h2i, h3, h3i]))))
    ·have h3i : ¬ (300 : Int) < (p.l.length : Int) := by omega
     by_cases h4 : 300 < p.r.length
     ·have h4i : (300 : Int) < (p.r.length : Int) := by omega
      ((refine Sg.h ?_); try repeat' ((first | (with_reducible first | refine brA ?_ | refine brE fun _ => ?_ | (refine spl ⟨?_, ?_⟩ <;> intro _))) <;> ((try simp -implicitDefEqProofs [h1, h2, h2i, h3, h3i, h4, h4i]); (try simp -implicitDefEqProofs (disch := first | assumption | (try simp only [lens]); omega -splitDisjunctions) [h1, h2, h2i, h3, h3i, h4, h4i]))))
     ·have h4i : ¬ (300 : Int) < (p.r.length : Int) := by omega
      cases h5 : vastB p.f 0 with
      | true =>
       have hvf := hv p.f
       rw [h5] at hvf
       ((refine Sg.h ?_); try repeat' ((first | (with_reducible first | refine brA ?_ | refine brE fun _ => ?_ | (refine spl ⟨?_, ?_⟩ <;> intro _)) | refine clo hvf ?_) <;> ((try simp -implicitDefEqProofs [h1, h2, h2i, h3, h3i, h4, h4i]); (try simp -implicitDefEqProofs (disch := first | assumption | (try simp only [lens]); omega -splitDisjunctions) [h1, h2, h2i, h3, h3i, h4, h4i]))))
      | false =>
       have hvf := hv p.f
       rw [h5] at hvf
       simp only [h1, h2, h3, h4, decide_false, Bool.false_or]
       ((refine Sg.h ?_); try repeat' ((first | (with_reducible first | refine brA ?_ | refine brE fun _ => ?_ | (refine spl ⟨?_, ?_⟩ <;> intro _)) | refine clo hvf ?_) <;> ((try simp -implicitDefEqProofs [h1, h2i, h3i, h4i]); (try simp -implicitDefEqProofs (disch := first | assumption | (try simp only [lens]); omega -splitDisjunctions) [h1, h2i, h3i, h4i]))))
       refine W_of fun Q hQ => ?_
       have k1 : ∀ n i, i + n = p.l.length → vastsB (p.l.drop i) 0 = vastsB p.l 0 → Q [(1, PV.int IntKind.i64 d), (2, PV.ptr 0 0 0), (5, PV.int IntKind.i64 (i : Int))] [PObj.rows 7 [prf p]] := by
        intro n
        induction n with
        | zero =>
         intro i hi he
         rw [List.drop_of_length_le (by omega), vastsB] at he
         rw [← he] at hQ
         obtain rfl : i = p.l.length := by omega
         apply hQ
         clear hQ
         ((refine Sg.h ?_); try repeat' ((first | (with_reducible first | refine brA ?_ | refine brE fun _ => ?_ | (refine spl ⟨?_, ?_⟩ <;> intro _))) <;> ((try simp -implicitDefEqProofs); (try simp -implicitDefEqProofs (disch := first | assumption | (try simp only [lens]); omega -splitDisjunctions)))))
         refine W_of fun Q hQ => ?_
         have k2 : ∀ n i, i + n = p.r.length → vastsB (p.r.drop i) 0 = vastsB p.r 0 → Q [(1, PV.int IntKind.i64 d), (2, PV.ptr 0 0 0), (6, PV.int IntKind.i64 (i : Int))] [PObj.rows 7 [prf p]] := by
          intro n
          induction n with
          | zero =>
           intro i hi he
           rw [List.drop_of_length_le (by omega), vastsB] at he
           rw [← he] at hQ
           obtain rfl : i = p.r.length := by omega
           apply hQ
           clear hQ
           ((refine Sg.h ?_); try repeat' ((first | (with_reducible first | refine brA ?_ | refine brE fun _ => ?_ | (refine spl ⟨?_, ?_⟩ <;> intro _))) <;> ((try simp -implicitDefEqProofs); (try simp -implicitDefEqProofs (disch := first | assumption | (try simp only [lens]); omega -splitDisjunctions)))))
           refine W_of fun Q hQ => ?_
           have k3 : ∀ n i, i + n = p.kids.length → vastPs (p.kids.drop i) (d + 1) = vastPs p.kids (d + 1) → Q [(1, PV.int IntKind.i64 d), (2, PV.ptr 0 0 0), (7, PV.int IntKind.i64 (i : Int))] [PObj.rows 7 [prf p]] := by
            intro n
            induction n with
            | zero =>
             intro i hi he
             rw [List.drop_of_length_le (by omega), vastPs] at he
             rw [← he] at hQ
             obtain rfl : i = p.kids.length := by omega
             apply hQ
             clear hQ
             ((refine Sg.h ?_); try repeat' ((first | (with_reducible first | refine brA ?_ | refine brE fun _ => ?_ | (refine spl ⟨?_, ?_⟩ <;> intro _))) <;> ((try simp -implicitDefEqProofs); (try simp -implicitDefEqProofs (disch := first | assumption | (try simp only [lens]); omega -splitDisjunctions)))))
            | succ n ihn =>
             intro i hi he
             have hil : i < p.kids.length := by omega
             have ihn := ihn (i + 1) (by omega)
             rw [vastPs_drop hil] at he
             have hc := ih _ (List.getElem_mem hil) (d + 1) (by omega) (by omega)
             generalize vastP p.kids[i] (d + 1) = B at *
             apply hQ
             clear hQ
             cases hb : B with
             | true =>
              rw [hb] at hc he
              rw [← he]
              ((refine Sg.h ?_); try repeat' ((first | (with_reducible first | refine brA ?_ | refine brE fun _ => ?_ | (refine spl ⟨?_, ?_⟩ <;> intro _)) | refine clo hc ?_) <;> ((try simp -implicitDefEqProofs [hil]); (try simp -implicitDefEqProofs (disch := first | assumption | (try simp only [lens]); omega -splitDisjunctions) [hil]))))
             | false =>
              rw [hb] at hc he
              have ihn := ihn he
              ((refine Sg.h ?_); try repeat' ((first | (with_reducible first | refine brA ?_ | refine brE fun _ => ?_ | (refine spl ⟨?_, ?_⟩ <;> intro _)) | refine clo hc ?_) <;> ((try simp -implicitDefEqProofs [hil]); (try simp -implicitDefEqProofs (disch := first | assumption | (try simp only [lens]); omega -splitDisjunctions) [hil]))))
              all_goals first | exact ihn | (refine at2 ihn ?_ ?_ <;> simp; done) | (exfalso; first | omega | (simp_all; done) | (simp_all; omega))
           have m0 := k3 _ 0 (Nat.zero_add _) (by simp)
           all_goals first | exact m0 | (refine at2 m0 ?_ ?_ <;> simp; done) | (exfalso; first | omega | (simp_all; done) | (simp_all; omega))
          | succ n ihn =>
           intro i hi he
           have hil : i < p.r.length := by omega
           have ihn := ihn (i + 1) (by omega)
           rw [vastsD hil] at he
           have hc := hv p.r[i]
           generalize vastB p.r[i] 0 = B at *
           apply hQ
           clear hQ
           cases hb : B with
           | true =>
            rw [hb] at hc he
            rw [← he]
            ((refine Sg.h ?_); try repeat' ((first | (with_reducible first | refine brA ?_ | refine brE fun _ => ?_ | (refine spl ⟨?_, ?_⟩ <;> intro _)) | refine clo hc ?_) <;> ((try simp -implicitDefEqProofs [hil]); (try simp -implicitDefEqProofs (disch := first | assumption | (try simp only [lens]); omega -splitDisjunctions) [hil]))))
           | false =>
            rw [hb] at hc he
            have ihn := ihn he
            ((refine Sg.h ?_); try repeat' ((first | (with_reducible first | refine brA ?_ | refine brE fun _ => ?_ | (refine spl ⟨?_, ?_⟩ <;> intro _)) | refine clo hc ?_) <;> ((try simp -implicitDefEqProofs [hil]); (try simp -implicitDefEqProofs (disch := first | assumption | (try simp only [lens]); omega -splitDisjunctions) [hil]))))
            all_goals first | exact ihn | (refine at2 ihn ?_ ?_ <;> simp; done) | (exfalso; first | omega | (simp_all; done) | (simp_all; omega))
         have m0 := k2 _ 0 (Nat.zero_add _) (by simp)
         all_goals first | exact m0 | (refine at2 m0 ?_ ?_ <;> simp; done) | (exfalso; first | omega | (simp_all; done) | (simp_all; omega))
        | succ n ihn =>
         intro i hi he
         have hil : i < p.l.length := by omega
         have ihn := ihn (i + 1) (by omega)
         rw [vastsD hil] at he
         have hc := hv p.l[i]
         generalize vastB p.l[i] 0 = B at *
         apply hQ
         clear hQ
         cases hb : B with
         | true =>
          rw [hb] at hc he
          rw [← he]
          ((refine Sg.h ?_); try repeat' ((first | (with_reducible first | refine brA ?_ | refine brE fun _ => ?_ | (refine spl ⟨?_, ?_⟩ <;> intro _)) | refine clo hc ?_) <;> ((try simp -implicitDefEqProofs [hil]); (try simp -implicitDefEqProofs (disch := first | assumption | (try simp only [lens]); omega -splitDisjunctions) [hil]))))
         | false =>
          rw [hb] at hc he
          have ihn := ihn he
          ((refine Sg.h ?_); try repeat' ((first | (with_reducible first | refine brA ?_ | refine brE fun _ => ?_ | (refine spl ⟨?_, ?_⟩ <;> intro _)) | refine clo hc ?_) <;> ((try simp -implicitDefEqProofs [hil]); (try simp -implicitDefEqProofs (disch := first | assumption | (try simp only [lens]); omega -splitDisjunctions) [hil]))))
          all_goals first | exact ihn | (refine at2 ihn ?_ ?_ <;> simp; done) | (exfalso; first | omega | (simp_all; done) | (simp_all; omega))
       have m0 := k1 _ 0 (Nat.zero_add _) (by simp)
       all_goals first | exact m0 | (refine at2 m0 ?_ ?_ <;> simp; done) | (exfalso; first | omega | (simp_all; done) | (simp_all; omega))
end Go.Proofs.Ytnoklmapofogeaa
namespace Go.Proofs.Ytnoklmapofogeaa
open Go Go.Pv
theorem vastPs_mem : ∀ {l : List Pf} {d : Int}, vastPs l d = false → ∀ k ∈ l, vastP k d = false
 | [], _, _, k, hk => nomatch hk
 | a :: r, d, h, k, hk => by
  rw [vastPs, Bool.or_eq_false_iff] at h
  rcases List.mem_cons.1 hk with rfl | hk
  ·exact h.1
  ·exact vastPs_mem h.2 k hk
end Go.Proofs.Ytnoklmapofogeaa
namespace Go.Pv
open Go
theorem callOK_softR {P : Program} {f : FuncId} {args : List PV} {v v' : PV} {s s' : Store} (h : CallOK P f args s v' s') (hs : Soft v v') : CallOK P f args s v s' := by
 intro pub σ w cargs hb ha
 refine (h pub σ w cargs hb ha).mono ?_
 rintro e w' ⟨cv, pub', σ', rfl, h1, h2⟩
 exact ⟨cv, pub', σ', rfl, h1, hs.rel h2⟩
end Go.Pv
namespace Go.Proofs.Ytnoklmapofogeaa
open Go Go.Pv
theorem callOK_softA {P : Program} {f : FuncId} {args args' : List PV} {v : PV} {s s' : Store} (h : CallOK P f args' s v s') (hs : SoftL args' args) : CallOK P f args s v s' := by
 intro pub σ w cargs hb ha
 have hg := hs.get (pub := pub)
 refine h pub σ w cargs hb ⟨by rw [ha.1, hg.1], fun j x y hx hy => ?_⟩
 have hjl := lt_of_getElem? hx
 have hyj : args[j]? = some (args[j]'(by have := hg.1; omega)) := List.getElem?_eq_getElem _
 exact hg.2 j x _ hx hyj σ y (ha.2 j _ y hyj hy)
end Go.Proofs.Ytnoklmapofogeaa
namespace Go.Proofs.Ytnoklmapofogeaa
open Go Go.Pv
theorem rt_ax_f : ruleT false ⟨#[97, 120]⟩ = some ⟨145, [], axR⟩ := by kernel_rfl
theorem rt_true_f : ruleT false ⟨#[116, 114, 117, 101]⟩ = some ⟨146, [], trueR⟩ := by kernel_rfl
theorem rt_false_f : ruleT false ⟨#[102, 97, 108, 115, 101]⟩ = some ⟨148, [], falseR⟩ := by kernel_rfl
theorem rt_andl_f : ruleT false ⟨#[97, 110, 100, 45, 108]⟩ = some ⟨149, [], andLR⟩ := by kernel_rfl
theorem rt_andr_f : ruleT false ⟨#[97, 110, 100, 45, 114]⟩ = some ⟨151, [], andRR⟩ := by kernel_rfl
theorem rt_orl_f : ruleT false ⟨#[111, 114, 45, 108]⟩ = some ⟨152, [], orLR⟩ := by kernel_rfl
theorem rt_thenr_f : ruleT false ⟨#[116, 104, 101, 110, 45, 114]⟩ = some ⟨153, [], thenRR⟩ := by kernel_rfl
theorem rt_notr_f : ruleT false ⟨#[110, 111, 116, 45, 114]⟩ = some ⟨154, [], notRR⟩ := by kernel_rfl
theorem rt_thenl_f : ruleT false ⟨#[116, 104, 101, 110, 45, 108]⟩ = some ⟨157, [], thenLR⟩ := by kernel_rfl
theorem rt_notl_f : ruleT false ⟨#[110, 111, 116, 45, 108]⟩ = some ⟨158, [], notLR⟩ := by kernel_rfl
theorem rt_orr_f : ruleT false ⟨#[111, 114, 45, 114]⟩ = some ⟨156, [], orRR⟩ := by kernel_rfl
end Go.Proofs.Ytnoklmapofogeaa
namespace Go.Proofs.Ytnoklmapofogeaa
open Go Go.Pv
def pF : Fm := .mk 1 ⟨#[112]⟩ []
def x72 : XC := .seq (.reg [⟨some 2,.alloc 24,none⟩]) (.seq (.reg [⟨some 3,.move (.tmp 0),none⟩,⟨some 4,.build 24 #[(0,.const (.int .i64 1)),(1,.tmp 3)],none⟩,⟨none,.store 24 (.tmp 2) (.tmp 4),none⟩]) .ret)
@[simp] theorem x72_s {C e s K} : type_of% (@X_at C e s K _ _ x72.eq_1) := X_at x72.eq_1
def an72 : Ann := ⟨[], [], []⟩
theorem fi72 : FI Try.prog 72 (cxA an72) x72 [.cell 2 24] Try.f72 := fiA Try.func72 mixed
theorem named_p : CallOK Try.prog 72 [.str ⟨#[112]⟩] [] (.agg (frm pF)) [] := by
 refine fi72.os ?_
 ((refine Sg.h ?_); try repeat' ((first | (with_reducible first | refine brA ?_ | refine brE fun _ => ?_ | (refine spl ⟨?_, ?_⟩ <;> intro _))) <;> ((try simp -implicitDefEqProofs); (try simp -implicitDefEqProofs (disch := first | assumption | (try simp only [lens]); omega -splitDisjunctions)))))
 rw [frm_eq]; rfl
def x73 : XC := .seq (.reg [⟨some 4,.box 24 (.tmp 1),none⟩,⟨some 5,.box 24 (.tmp 2),none⟩,⟨some 6,.alloc 24,none⟩]) (.seq (.reg [⟨some 7,.move (.tmp 0),none⟩,⟨some 8,.load 24 (.tmp 4),none⟩,⟨some 9,.load 24 (.tmp 5),none⟩,⟨some 10,.buildSlice 22 2 #[(0,.tmp 8),(1,.tmp 9)],none⟩,⟨some 11,.build 24 #[(0,.tmp 7),(2,.tmp 10)],none⟩,⟨none,.store 24 (.tmp 6) (.tmp 11),none⟩]) .ret)
@[simp] theorem x73_s {C e s K} : type_of% (@X_at C e s K _ _ x73.eq_1) := X_at x73.eq_1
def an73 : Ann := ⟨[], [], []⟩
theorem fi73 : FI Try.prog 73 (cxA an73) x73 [.cell 6 24] Try.f73 := fiA Try.func73 mixed
theorem step_ok {u : Bool} {p : Pf} {e : Ent} {qs : List Prem} (hw : p.rule ≠ ⟨#[119, 101, 97, 107]⟩) (h : ruleT u p.rule = some e) (hp : (plainF p.f).1 = 0) (hb : e.R p.f p.l p.r = (qs, true)) (hl : p.kids.length = qs.length) (hm : meetB qs p.kids = true) : stepF u p = 0 := by
 unfold stepF
 rw [if_neg hw, h]
 dsimp only
 rw [hb, if_neg (by simpa using hp), if_neg (by simp), if_neg (by simpa using hl), if_pos hm]
theorem hasF_of {l : List Fm} {f : Fm} (h : f ∈ l) : hasF l f = true := hasF_iff.2 h
theorem same_self (l : List Fm) : sameF l l = true := by
 unfold sameF
 have : ∀ l : List Fm, withinF l l = true := by
  intro l
  induction l with
  | nil => rfl
  | cons a r ih => rw [withinF, hasF_of List.mem_cons_self, List.erase_cons_head, ih]; rfl
 rw [this]; simp
end Go.Proofs.Ytnoklmapofogeaa
namespace Go.Proofs.Ytnoklmapofogeaa
open Go Go.Pv
def x57_T1 : XC := .seq (.reg [⟨some 19,.move (.tmp 3),none⟩,⟨some 2,.assign (.tmp 19),none⟩]) .ret
def x57_L0 : XC := .seq (.seq (.reg [⟨some 5,.move (.tmp 4),none⟩,⟨some 6,.move (.tmp 0),none⟩,⟨some 7,.call ⟨.builtin .len,#[.tmp 6],#[22]⟩,none⟩,⟨some 8,.binOp .lss 3 (.tmp 5) (.tmp 7) 3,none⟩]) (.cond (.tmp 8) .skip (.exit 0))) (.seq (.block 1 (.reg [⟨some 11,.move (.tmp 3),none⟩,⟨some 12,.move (.tmp 0),none⟩,⟨some 13,.move (.tmp 4),none⟩,⟨some 14,.indexAddr 22 (.tmp 12) (.tmp 13),none⟩,⟨some 15,.load 24 (.tmp 14),none⟩,⟨some 16,.call ⟨.value (.func 35),#[.tmp 15],#[24]⟩,none⟩,⟨some 17,.buildSlice 22 1 #[(0,.tmp 16)],none⟩,⟨some 18,.call ⟨.builtin .append,#[.tmp 11,.tmp 17],#[22,22]⟩,none⟩,⟨some 3,.assign (.tmp 18),none⟩])) (.reg [⟨some 9,.move (.tmp 4),none⟩,⟨some 10,.binOp .add 3 (.tmp 9) (.const (.int .i64 1)) 3,none⟩,⟨some 4,.assign (.tmp 10),none⟩]))
def x57 : XC := .seq (.reg [⟨some 2,.assign (.const (.slice none 0 0)),none⟩]) (.seq (.reg [⟨some 3,.assign (.const (.slice none 0 0)),none⟩]) (.seq (.seq (.reg [⟨some 4,.assign (.const (.int .i64 0)),none⟩]) (.bloop 0 x57_L0)) (x57_T1)))
@[simp] theorem x57_s {C e s K} : type_of% (@X_at C e s K _ _ x57_T1.eq_1) ∧ type_of% (@X_at C e s K _ _ x57_L0.eq_1) ∧ type_of% (@X_at C e s K _ _ x57.eq_1) := ⟨X_at x57_T1.eq_1, X_at x57_L0.eq_1, X_at x57.eq_1⟩
def an57 : Ann := ⟨[], [(0, [(3, none, 3)], [0, 3, 4], [3])], []⟩
@[simp] theorem an57_a : an57.loopOf 0 = ([(3, none, 3)], [0, 3, 4], [3]) := rfl
theorem fi57 : FI Try.prog 57 (cxA an57) x57 [.tmp 2] Try.f57 := fiA Try.func57 mixed
theorem ownList_own (l : List Fm) (hl : l.length ≤ 1000000) (hv : ∀ f ∈ l, vastB f 0 = false) : CallOK Try.prog 57 [.list (l.map frm)] [] (.sl 0 0 l.length) [.rows 3 (l.map frm)] := by
 refine fi57.og ?_
 ((refine Sg.h ?_); try repeat' ((first | (with_reducible first | refine brA ?_ | refine brE fun _ => ?_ | (refine spl ⟨?_, ?_⟩ <;> intro _))) <;> ((try simp -implicitDefEqProofs); (try simp -implicitDefEqProofs (disch := first | assumption | (try simp only [lens]); omega -splitDisjunctions)))))
 refine W_of fun Q hQ => ?_
 have main : ∀ r i, i + r = l.length → Q [(0, .list (l.map frm)), (3, .sl 0 0 (l.take i).length), (4, .int .i64 (i : Int))] [.rows 3 ((l.take i).map frm)] := by
  intro r
  induction r with
  | zero =>
   intro i hi
   obtain rfl : i = l.length := by omega
   rw [List.take_length]
   apply hQ
   clear hQ
   ((refine Sg.h ?_); try repeat' ((first | (with_reducible first | refine brA ?_ | refine brE fun _ => ?_ | (refine spl ⟨?_, ?_⟩ <;> intro _))) <;> ((try simp -implicitDefEqProofs); (try simp -implicitDefEqProofs (disch := first | assumption | (try simp only [lens]); omega -splitDisjunctions)))))
  | succ r ih =>
   intro i hi
   have hil : i < l.length := by omega
   have ih := ih (i + 1) (by omega)
   have ho := own_law l[i] 0 (hv _ (List.getElem_mem hil))
   have hlen : (l.take i).length = i := by rw [List.length_take]; omega
   rw [take_snoc hil] at ih
   generalize l.take i = T at *
   apply hQ
   clear hQ
   ((refine Sg.h ?_); try repeat' ((first | (with_reducible first | refine brA ?_ | refine brE fun _ => ?_ | (refine spl ⟨?_, ?_⟩ <;> intro _)) | refine clo ho ?_) <;> ((try simp -implicitDefEqProofs [hil]); (try simp -implicitDefEqProofs (disch := first | assumption | (try simp only [lens]); omega -splitDisjunctions) [hil]))))
   all_goals first | exact ih | (refine at2 ih ?_ ?_ <;> simp; done) | (exfalso; first | omega | (simp_all; done) | (simp_all; omega))
 refine at2 (main _ 0 (Nat.zero_add _)) ?_ ?_ <;> simp
theorem ownList_law (l : List Fm) (hl : l.length ≤ 1000000) (hv : ∀ f ∈ l, vastB f 0 = false) : CallOK Try.prog 57 [.list (l.map frm)] [] (.list (l.map frm)) [] := callOK_done (ownList_own l hl hv) (by simp)
theorem vastP_all {p : Pf} {d : Int} (h : vastP p d = false) : p.kids.length ≤ 1200 ∧ p.l.length ≤ 300 ∧ p.r.length ≤ 300 ∧ vastB p.f 0 = false ∧ (∀ f ∈ p.l, vastB f 0 = false) ∧ (∀ f ∈ p.r, vastB f 0 = false) ∧ ∀ k ∈ p.kids, vastP k (d + 1) = false := by
 rw [vastP_eq] at h
 simp only [Bool.or_eq_false_iff, decide_eq_false_iff_not] at h
 obtain ⟨h1, h2, h3, h4, h5, h6, h7, h8⟩ := h
 have key : ∀ l : List Fm, vastsB l 0 = false → ∀ f ∈ l, vastB f 0 = false := by
  intro l
  induction l with
  | nil => intro _ f hf; cases hf
  | cons a r ih =>
   intro h f hf
   rw [vastsB, Bool.or_eq_false_iff] at h
   rcases List.mem_cons.1 hf with rfl | hf
   ·exact h.1
   ·exact ih h.2 f hf
 exact ⟨by omega, by omega, by omega, h5, key _ h6, key _ h7, vastPs_mem h8⟩
end Go.Proofs.Ytnoklmapofogeaa
namespace Go.Proofs.Ytnoklmapofogeaa
open Go Go.Pv
theorem seqGo_of : ∀ {l : List Fm} {i : Nat}, (∀ f ∈ l, (plainF f).1 = 0) → (seqGo l i).1 = 0
 | [], _, _ => rfl
 | a :: r, i, h => by
  rw [seqGo, if_neg (by simpa using h a (.head _))]
  exact seqGo_of fun f hf => h f (.tail _ hf)
theorem sequent_of {l r : List Fm} (h : l.length + r.length ≤ 60) (hl : ∀ f ∈ l, (plainF f).1 = 0) (hr : ∀ f ∈ r, (plainF f).1 = 0) : (sequentF l r).1 = 0 := by
 unfold sequentF
 rw [if_neg (by omega)]
 exact seqGo_of fun f hf => (List.mem_append.1 hf).elim (hl f) (hr f)
end Go.Proofs.Ytnoklmapofogeaa
