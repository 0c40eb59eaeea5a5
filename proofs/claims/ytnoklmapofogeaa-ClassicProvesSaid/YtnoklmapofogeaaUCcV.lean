import Derived.Test.YtnoklmapofogeaaUCcW
import Derived.Test.YtnoklmapofogeaaUTPa
import Derived.Test.YtnoklmapofogeaaUCcA
set_option linter.unusedVariables false
set_option linter.unusedSimpArgs false
set_option maxRecDepth 100000
set_option maxHeartbeats 4000000
namespace Go.Proofs.Ytnoklmapofogeaa
open Go Go.Pv
mutual
def vastP : Pf → Int → Bool
 | .mk a f l r ks, d => decide (1200 < d) || (decide (1200 < ks.length) || (decide (300 < l.length) || (decide (300 < r.length) || (vastB f 0 || (vastsB l 0 || (vastsB r 0 || vastPs ks (d + 1)))))))
def vastPs : List Pf → Int → Bool
 | [], _ => false
 | p :: r, d => vastP p d || vastPs r d
end
theorem vastP_eq (p : Pf) (d : Int) : vastP p d = (decide (1200 < d) || (decide (1200 < p.kids.length) || (decide (300 < p.l.length) || (decide (300 < p.r.length) || (vastB p.f 0 || (vastsB p.l 0 || (vastsB p.r 0 || vastPs p.kids (d + 1)))))))) := by
 cases p with | mk a f l r ks => rw [vastP]; rfl
theorem vastsD {l : List Fm} {i : Nat} {d : Int} (h : i < l.length) : vastsB (l.drop i) d = (vastB l[i] d || vastsB (l.drop (i + 1)) d) := by
 rw [List.drop_eq_getElem_cons h, vastsB]
theorem vastPs_drop {l : List Pf} {i : Nat} {d : Int} (h : i < l.length) : vastPs (l.drop i) d = (vastP l[i] d || vastPs (l.drop (i + 1)) d) := by
 rw [List.drop_eq_getElem_cons h, vastPs]
def x15_L4 : XC := .seq (.seq (.reg [⟨some 65,.move (.tmp 7),none⟩,⟨some 66,.fieldAddr 29 (.tmp 2) 3,none⟩,⟨some 67,.load 27 (.tmp 66),none⟩,⟨some 68,.call ⟨.builtin .len,#[.tmp 67],#[27]⟩,none⟩,⟨some 69,.binOp .lss 3 (.tmp 65) (.tmp 68) 3,none⟩]) (.cond (.tmp 69) .skip (.exit 4))) (.seq (.block 5 (.seq (.reg [⟨some 72,.fieldAddr 29 (.tmp 2) 3,none⟩,⟨some 73,.load 27 (.tmp 72),none⟩,⟨some 74,.move (.tmp 7),none⟩,⟨some 75,.indexAddr 27 (.tmp 73) (.tmp 74),none⟩,⟨some 76,.load 29 (.tmp 75),none⟩,⟨some 77,.move (.tmp 1),none⟩,⟨some 78,.binOp .add 3 (.tmp 77) (.const (.int .i64 1)) 3,none⟩,⟨some 79,.call ⟨.value (.func 15),#[.tmp 76,.tmp 78],#[29,3]⟩,none⟩]) (.cond (.tmp 79) (.seq (.reg [⟨some 4,.assign (.const (.bool true)),none⟩]) .ret) .skip))) (.reg [⟨some 70,.move (.tmp 7),none⟩,⟨some 71,.binOp .add 3 (.tmp 70) (.const (.int .i64 1)) 3,none⟩,⟨some 7,.assign (.tmp 71),none⟩]))
def x15_T3 : XC := .seq (.seq (.reg [⟨some 7,.assign (.const (.int .i64 0)),none⟩]) (.bloop 4 x15_L4)) (.seq (.reg [⟨some 4,.assign (.const (.bool false)),none⟩]) .ret)
def x15_L2 : XC := .seq (.seq (.reg [⟨some 50,.move (.tmp 6),none⟩,⟨some 51,.fieldAddr 29 (.tmp 2) 2,none⟩,⟨some 52,.fieldAddr 26 (.tmp 51) 1,none⟩,⟨some 53,.load 22 (.tmp 52),none⟩,⟨some 54,.call ⟨.builtin .len,#[.tmp 53],#[22]⟩,none⟩,⟨some 55,.binOp .lss 3 (.tmp 50) (.tmp 54) 3,none⟩]) (.cond (.tmp 55) .skip (.exit 2))) (.seq (.block 3 (.seq (.reg [⟨some 58,.fieldAddr 29 (.tmp 2) 2,none⟩,⟨some 59,.fieldAddr 26 (.tmp 58) 1,none⟩,⟨some 60,.load 22 (.tmp 59),none⟩,⟨some 61,.move (.tmp 6),none⟩,⟨some 62,.indexAddr 22 (.tmp 60) (.tmp 61),none⟩,⟨some 63,.load 24 (.tmp 62),none⟩,⟨some 64,.call ⟨.value (.func 20),#[.tmp 63,.const (.int .i64 0)],#[24,3]⟩,none⟩]) (.cond (.tmp 64) (.seq (.reg [⟨some 4,.assign (.const (.bool true)),none⟩]) .ret) .skip))) (.reg [⟨some 56,.move (.tmp 6),none⟩,⟨some 57,.binOp .add 3 (.tmp 56) (.const (.int .i64 1)) 3,none⟩,⟨some 6,.assign (.tmp 57),none⟩]))
def x15_T1 : XC := .seq (.seq (.reg [⟨some 6,.assign (.const (.int .i64 0)),none⟩]) (.bloop 2 x15_L2)) (x15_T3)
def x15_L0 : XC := .seq (.seq (.reg [⟨some 35,.move (.tmp 5),none⟩,⟨some 36,.fieldAddr 29 (.tmp 2) 2,none⟩,⟨some 37,.fieldAddr 26 (.tmp 36) 0,none⟩,⟨some 38,.load 22 (.tmp 37),none⟩,⟨some 39,.call ⟨.builtin .len,#[.tmp 38],#[22]⟩,none⟩,⟨some 40,.binOp .lss 3 (.tmp 35) (.tmp 39) 3,none⟩]) (.cond (.tmp 40) .skip (.exit 0))) (.seq (.block 1 (.seq (.reg [⟨some 43,.fieldAddr 29 (.tmp 2) 2,none⟩,⟨some 44,.fieldAddr 26 (.tmp 43) 0,none⟩,⟨some 45,.load 22 (.tmp 44),none⟩,⟨some 46,.move (.tmp 5),none⟩,⟨some 47,.indexAddr 22 (.tmp 45) (.tmp 46),none⟩,⟨some 48,.load 24 (.tmp 47),none⟩,⟨some 49,.call ⟨.value (.func 20),#[.tmp 48,.const (.int .i64 0)],#[24,3]⟩,none⟩]) (.cond (.tmp 49) (.seq (.reg [⟨some 4,.assign (.const (.bool true)),none⟩]) .ret) .skip))) (.reg [⟨some 41,.move (.tmp 5),none⟩,⟨some 42,.binOp .add 3 (.tmp 41) (.const (.int .i64 1)) 3,none⟩,⟨some 5,.assign (.tmp 42),none⟩]))
def x15 : XC := .seq (.reg [⟨some 2,.box 29 (.tmp 0),none⟩,⟨some 4,.assign (.const (.bool false)),none⟩]) (.seq (.seq (.reg [⟨some 8,.move (.tmp 1),none⟩,⟨some 9,.binOp .gtr 3 (.tmp 8) (.const (.int .i64 1200)) 3,none⟩,⟨some 10,.move (.tmp 9),none⟩,⟨some 11,.fieldAddr 29 (.tmp 2) 3,some (some 10,false)⟩,⟨some 12,.load 27 (.tmp 11),some (some 10,false)⟩,⟨some 13,.call ⟨.builtin .len,#[.tmp 12],#[27]⟩,some (some 10,false)⟩,⟨some 14,.binOp .gtr 3 (.tmp 13) (.const (.int .i64 1200)) 3,some (some 10,false)⟩,⟨some 15,.pick (.tmp 10) (.const (.bool true)) (.tmp 14),none⟩,⟨some 16,.move (.tmp 15),none⟩,⟨some 17,.fieldAddr 29 (.tmp 2) 2,some (some 16,false)⟩,⟨some 18,.fieldAddr 26 (.tmp 17) 0,some (some 16,false)⟩,⟨some 19,.load 22 (.tmp 18),some (some 16,false)⟩,⟨some 20,.call ⟨.builtin .len,#[.tmp 19],#[22]⟩,some (some 16,false)⟩,⟨some 21,.binOp .gtr 3 (.tmp 20) (.const (.int .i64 300)) 3,some (some 16,false)⟩,⟨some 22,.pick (.tmp 16) (.const (.bool true)) (.tmp 21),none⟩,⟨some 23,.move (.tmp 22),none⟩,⟨some 24,.fieldAddr 29 (.tmp 2) 2,some (some 23,false)⟩,⟨some 25,.fieldAddr 26 (.tmp 24) 1,some (some 23,false)⟩,⟨some 26,.load 22 (.tmp 25),some (some 23,false)⟩,⟨some 27,.call ⟨.builtin .len,#[.tmp 26],#[22]⟩,some (some 23,false)⟩,⟨some 28,.binOp .gtr 3 (.tmp 27) (.const (.int .i64 300)) 3,some (some 23,false)⟩,⟨some 29,.pick (.tmp 23) (.const (.bool true)) (.tmp 28),none⟩,⟨some 30,.move (.tmp 29),none⟩,⟨some 31,.fieldAddr 29 (.tmp 2) 1,some (some 30,false)⟩,⟨some 32,.load 24 (.tmp 31),some (some 30,false)⟩,⟨some 33,.call ⟨.value (.func 20),#[.tmp 32,.const (.int .i64 0)],#[24,3]⟩,some (some 30,false)⟩,⟨some 34,.pick (.tmp 30) (.const (.bool true)) (.tmp 33),none⟩]) (.cond (.tmp 34) (.seq (.reg [⟨some 4,.assign (.const (.bool true)),none⟩]) .ret) .skip)) (.seq (.seq (.reg [⟨some 5,.assign (.const (.int .i64 0)),none⟩]) (.bloop 0 x15_L0)) (x15_T1)))
@[simp] theorem x15_s {C e s K} : type_of% (@X_at C e s K _ _ x15_L4.eq_1) ∧ type_of% (@X_at C e s K _ _ x15_T3.eq_1) ∧ type_of% (@X_at C e s K _ _ x15_L2.eq_1) ∧ type_of% (@X_at C e s K _ _ x15_T1.eq_1) ∧ type_of% (@X_at C e s K _ _ x15_L0.eq_1) ∧ type_of% (@X_at C e s K _ _ x15.eq_1) := ⟨X_at x15_L4.eq_1, X_at x15_T3.eq_1, X_at x15_L2.eq_1, X_at x15_T1.eq_1, X_at x15_L0.eq_1, X_at x15.eq_1⟩
def an15 : Ann := ⟨[], [(4, [], [1, 2, 7], [4]), (2, [], [1, 2, 6], [1, 2, 4]), (0, [], [1, 2, 5], [1, 2, 4])], []⟩
@[simp] theorem an15_a : an15.loopOf 4 = ([], [1, 2, 7], [4]) ∧ an15.loopOf 2 = ([], [1, 2, 6], [1, 2, 4]) ∧ an15.loopOf 0 = ([], [1, 2, 5], [1, 2, 4]) := ⟨rfl, rfl, rfl⟩
theorem fi15 : FI Try.prog 15 (cxA an15) x15 [.tmp 4] Try.f15 := fiA Try.func15 mixed
theorem VastProof_ref (p : Pf) : ∀ d : Int, 0 ≤ d → d ≤ 1201 → CallOK Try.prog 15 [.agg (prf p), .int .i64 d] [] (.bool (vastP p d)) [] := by
 induction p using Pf.ind with
 | h p ih =>
  intro d hd0 hd1
  have hv := fun f => vast_ref f 0 (by decide) (by decide) []
  refine fi15.op ?_
  rw [vastP_eq]
  by_cases h1 : 1200 < d
  ·((refine Sg.h ?_); try repeat' ((first | (with_reducible first | refine brA ?_ | refine brE fun _ => ?_ | (refine spl ⟨?_, ?_⟩ <;> intro _))) <;> ((try simp -implicitDefEqProofs [h1]); (try simp -implicitDefEqProofs (disch := first | assumption | (try simp only [lens]); omega -splitDisjunctions) [h1]))))
  ·by_cases h2 : 1200 < p.kids.length
   ·have h2i : (1200 : Int) < (p.kids.length : Int) := by omega
    ((refine Sg.h ?_); try repeat' ((first | (with_reducible first | refine brA ?_ | refine brE fun _ => ?_ | (refine spl ⟨?_, ?_⟩ <;> intro _))) <;> ((try simp -implicitDefEqProofs [h1, h2, h2i]); (try simp -implicitDefEqProofs (disch := first | assumption | (try simp only [lens]); omega -splitDisjunctions) [h1, h2, h2i]))))
   ·have h2i : ¬ (1200 : Int) < (p.kids.length : Int) := by omega
    by_cases h3 : 300 < p.l.length
    ·have h3i : (300 : Int) < (p.l.length : Int) := by omega
     ((refine Sg.h ?_); try repeat' ((first | (with_reducible first | refine brA ?_ | refine brE fun _ => ?_ | (refine spl ⟨?_, ?_⟩ <;> intro _))) <;> ((try simp -implicitDefEqProofs [h1, h2, h2i, h3, h3i]); (try simp -implicitDefEqProofs (disch := first | assumption | (try simp only [lens]); omega -splitDisjunctions) [h1, h2, h2i, h3, h3i]))))
    ·have h3i : ¬ (300 : Int) < (p.l.length : Int) := by omega
     by_cases h4 : 300 < p.r.length
     ·have h4i : (300 : Int) < (p.r.length : Int) := by omega
      ((refine Sg.h ?_); try repeat' ((first | (with_reducible first | refine brA ?_ | refine brE fun _ => ?_ | (refine spl ⟨?_, ?_⟩ <;> intro _))) <;> ((try simp -implicitDefEqProofs [h1, h2, h2i, h3, h3i, h4, h4i]); (try simp -implicitDefEqProofs (disch := first | assumption | (try simp only [lens]); omega -splitDisjunctions) [h1, h2, h2i, h3, h3i, h4, h4i]))))
     ·have h4i : ¬ (300 : Int) < (p.r.length : Int) := by omega
      cases h5 : vastB p.f 0 with
      | true =>
       have hvf := hv p.f
       rw [h5] at hvf
       ((refine Sg.h ?_); try repeat' ((first | (with_reducible first | refine brA ?_ | refine brE fun _ => ?_ | (refine spl ⟨?_, ?_⟩ <;> intro _)) | refine clo hvf ?_) <;> ((try simp -implicitDefEqProofs [h1, h2, h2i, h3, h3i, h4, h4i]); (try simp -implicitDefEqProofs (disch := first | assumption | (try simp only [lens]); omega -splitDisjunctions) [h1, h2, h2i, h3, h3i, h4, h4i]))))
      | false =>
       have hvf := hv p.f
       rw [h5] at hvf
       simp only [h1, h2, h3, h4, decide_false, Bool.false_or]
       ((refine Sg.h ?_); try repeat' ((first | (with_reducible first | refine brA ?_ | refine brE fun _ => ?_ | (refine spl ⟨?_, ?_⟩ <;> intro _)) | refine clo hvf ?_) <;> ((try simp -implicitDefEqProofs [h1, h2i, h3i, h4i]); (try simp -implicitDefEqProofs (disch := first | assumption | (try simp only [lens]); omega -splitDisjunctions) [h1, h2i, h3i, h4i]))))
       refine W_of fun Q hQ => ?_
       have k1 : ∀ n i, i + n = p.l.length → vastsB (p.l.drop i) 0 = vastsB p.l 0 → Q [(1, PV.int IntKind.i64 d), (2, PV.ptr 0 0 0), (5, PV.int IntKind.i64 (i : Int))] [PObj.rows 7 [prf p]] := by
        intro n
        induction n with
        | zero =>
         intro i hi he
         rw [List.drop_of_length_le (by omega), vastsB] at he
         rw [← he] at hQ
         obtain rfl : i = p.l.length := by omega
         apply hQ
         clear hQ
         ((refine Sg.h ?_); try repeat' ((first | (with_reducible first | refine brA ?_ | refine brE fun _ => ?_ | (refine spl ⟨?_, ?_⟩ <;> intro _))) <;> ((try simp -implicitDefEqProofs); (try simp -implicitDefEqProofs (disch := first | assumption | (try simp only [lens]); omega -splitDisjunctions)))))
         refine W_of fun Q hQ => ?_
         have k2 : ∀ n i, i + n = p.r.length → vastsB (p.r.drop i) 0 = vastsB p.r 0 → Q [(1, PV.int IntKind.i64 d), (2, PV.ptr 0 0 0), (6, PV.int IntKind.i64 (i : Int))] [PObj.rows 7 [prf p]] := by
          intro n
          induction n with
          | zero =>
           intro i hi he
           rw [List.drop_of_length_le (by omega), vastsB] at he
           rw [← he] at hQ
           obtain rfl : i = p.r.length := by omega
           apply hQ
           clear hQ
           ((refine Sg.h ?_); try repeat' ((first | (with_reducible first | refine brA ?_ | refine brE fun _ => ?_ | (refine spl ⟨?_, ?_⟩ <;> intro _))) <;> ((try simp -implicitDefEqProofs); (try simp -implicitDefEqProofs (disch := first | assumption | (try simp only [lens]); omega -splitDisjunctions)))))
           refine W_of fun Q hQ => ?_
           have k3 : ∀ n i, i + n = p.kids.length → vastPs (p.kids.drop i) (d + 1) = vastPs p.kids (d + 1) → Q [(1, PV.int IntKind.i64 d), (2, PV.ptr 0 0 0), (7, PV.int IntKind.i64 (i : Int))] [PObj.rows 7 [prf p]] := by
            intro n
            induction n with
            | zero =>
             intro i hi he
             rw [List.drop_of_length_le (by omega), vastPs] at he
             rw [← he] at hQ
             obtain rfl : i = p.kids.length := by omega
             apply hQ
             clear hQ
             ((refine Sg.h ?_); try repeat' ((first | (with_reducible first | refine brA ?_ | refine brE fun _ => ?_ | (refine spl ⟨?_, ?_⟩ <;> intro _))) <;> ((try simp -implicitDefEqProofs); (try simp -implicitDefEqProofs (disch := first | assumption | (try simp only [lens]); omega -splitDisjunctions)))))
            | succ n ihn =>
             intro i hi he
             have hil : i < p.kids.length := by omega
             have ihn := ihn (i + 1) (by omega)
             rw [vastPs_drop hil] at he
             have hc := ih _ (List.getElem_mem hil) (d + 1) (by omega) (by omega)
             generalize vastP p.kids[i] (d + 1) = B at *
             apply hQ
             clear hQ
             cases hb : B with
             | true =>
              rw [hb] at hc he
              rw [← he]
              ((refine Sg.h ?_); try repeat' ((first | (with_reducible first | refine brA ?_ | refine brE fun _ => ?_ | (refine spl ⟨?_, ?_⟩ <;> intro _)) | refine clo hc ?_) <;> ((try simp -implicitDefEqProofs [hil]); (try simp -implicitDefEqProofs (disch := first | assumption | (try simp only [lens]); omega -splitDisjunctions) [hil]))))
             | false =>
              rw [hb] at hc he
              have ihn := ihn he
              ((refine Sg.h ?_); try repeat' ((first | (with_reducible first | refine brA ?_ | refine brE fun _ => ?_ | (refine spl ⟨?_, ?_⟩ <;> intro _)) | refine clo hc ?_) <;> ((try simp -implicitDefEqProofs [hil]); (try simp -implicitDefEqProofs (disch := first | assumption | (try simp only [lens]); omega -splitDisjunctions) [hil]))))
              all_goals first | exact ihn | (refine at2 ihn ?_ ?_ <;> simp; done) | (exfalso; first | omega | (simp_all; done) | (simp_all; omega))
           have m0 := k3 _ 0 (Nat.zero_add _) (by simp)
           all_goals first | exact m0 | (refine at2 m0 ?_ ?_ <;> simp; done) | (exfalso; first | omega | (simp_all; done) | (simp_all; omega))
          | succ n ihn =>
           intro i hi he
           have hil : i < p.r.length := by omega
           have ihn := ihn (i + 1) (by omega)
           rw [vastsD hil] at he
           have hc := hv p.r[i]
           generalize vastB p.r[i] 0 = B at *
           apply hQ
           clear hQ
           cases hb : B with
           | true =>
            rw [hb] at hc he
            rw [← he]
            ((refine Sg.h ?_); try repeat' ((first | (with_reducible first | refine brA ?_ | refine brE fun _ => ?_ | (refine spl ⟨?_, ?_⟩ <;> intro _)) | refine clo hc ?_) <;> ((try simp -implicitDefEqProofs [hil]); (try simp -implicitDefEqProofs (disch := first | assumption | (try simp only [lens]); omega -splitDisjunctions) [hil]))))
           | false =>
            rw [hb] at hc he
            have ihn := ihn he
            ((refine Sg.h ?_); try repeat' ((first | (with_reducible first | refine brA ?_ | refine brE fun _ => ?_ | (refine spl ⟨?_, ?_⟩ <;> intro _)) | refine clo hc ?_) <;> ((try simp -implicitDefEqProofs [hil]); (try simp -implicitDefEqProofs (disch := first | assumption | (try simp only [lens]); omega -splitDisjunctions) [hil]))))
            all_goals first | exact ihn | (refine at2 ihn ?_ ?_ <;> simp; done) | (exfalso; first | omega | (simp_all; done) | (simp_all; omega))
         have m0 := k2 _ 0 (Nat.zero_add _) (by simp)
         all_goals first | exact m0 | (refine at2 m0 ?_ ?_ <;> simp; done) | (exfalso; first | omega | (simp_all; done) | (simp_all; omega))
        | succ n ihn =>
         intro i hi he
         have hil : i < p.l.length := by omega
         have ihn := ihn (i + 1) (by omega)
         rw [vastsD hil] at he
         have hc := hv p.l[i]
         generalize vastB p.l[i] 0 = B at *
         apply hQ
         clear hQ
         cases hb : B with
         | true =>
          rw [hb] at hc he
          rw [← he]
          ((refine Sg.h ?_); try repeat' ((first | (with_reducible first | refine brA ?_ | refine brE fun _ => ?_ | (refine spl ⟨?_, ?_⟩ <;> intro _)) | refine clo hc ?_) <;> ((try simp -implicitDefEqProofs [hil]); (try simp -implicitDefEqProofs (disch := first | assumption | (try simp only [lens]); omega -splitDisjunctions) [hil]))))
         | false =>
          rw [hb] at hc he
          have ihn := ihn he
          ((refine Sg.h ?_); try repeat' ((first | (with_reducible first | refine brA ?_ | refine brE fun _ => ?_ | (refine spl ⟨?_, ?_⟩ <;> intro _)) | refine clo hc ?_) <;> ((try simp -implicitDefEqProofs [hil]); (try simp -implicitDefEqProofs (disch := first | assumption | (try simp only [lens]); omega -splitDisjunctions) [hil]))))
          all_goals first | exact ihn | (refine at2 ihn ?_ ?_ <;> simp; done) | (exfalso; first | omega | (simp_all; done) | (simp_all; omega))
       have m0 := k1 _ 0 (Nat.zero_add _) (by simp)
       all_goals first | exact m0 | (refine at2 m0 ?_ ?_ <;> simp; done) | (exfalso; first | omega | (simp_all; done) | (simp_all; omega))
end Go.Proofs.Ytnoklmapofogeaa
namespace Go.Proofs.Ytnoklmapofogeaa
open Go Go.Pv
mutual
def preD : Pf → Int → List (Pf × Int)
 | .mk a f l r ks, d => (.mk a f l r ks, d) :: if d < 402 then preDs ks (d + 1) else []
def preDs : List Pf → Int → List (Pf × Int)
 | [], _ => []
 | p :: r, d => preD p d ++ preDs r d
end
theorem preDs_eq (l : List Pf) (d : Int) : preDs l d = l.flatMap fun p => preD p d := by
 induction l with
 | nil => rfl
 | cons p r ih => rw [preDs, ih]; rfl
theorem preD_eq (p : Pf) (d : Int) : preD p d = (p, d) :: if d < 402 then preDs p.kids (d + 1) else [] := by
 cases p with | mk a f l r ks => rw [preD]; rfl
noncomputable def scanF (u : Bool) : List (Pf × Int) → Nat → Nat × (Int × Int)
 | [], n => (n, (0, 0))
 | x :: r, n => if 20000 ≤ n ∨ 400 < x.2 then (n + 1, (2, 0)) else
  if (sequentF x.1.l x.1.r).1 ≠ 0 ∨ (u = true ∧ 1 < x.1.r.length) then (n + 1, (5, (n : Int))) else
  if stepF u x.1 ≠ 0 then (n + 1, (stepF u x.1, (n : Int))) else scanF u r (n + 1)
theorem scanF_append (u : Bool) (b : List (Pf × Int)) : ∀ (a : List (Pf × Int)) (n : Nat), scanF u (a ++ b) n = if (scanF u a n).2.1 ≠ 0 then scanF u a n else scanF u b (scanF u a n).1
 | [], n => by rw [List.nil_append]; simp [scanF]
 | x :: r, n => by
  rw [List.cons_append, scanF, scanF]
  split
  ·rw [if_pos (by simp)]
  ·split
   ·rw [if_pos (by simp)]
   ·split
    ·rfl
    ·exact scanF_append u b r (n + 1)
theorem look_scan (u : Bool) (p : Pf) : ∀ (n : Nat) (d : Int), d ≤ 401 → lookF u p n d = scanF u (preD p d) n := by
 induction p using Pf.ind with
 | h p ih =>
  intro n d hd
  rw [lookF_eq, preD_eq, scanF, if_pos (show d < 402 by omega)]
  dsimp only
  by_cases h1 : 20000 ≤ n ∨ 400 < d
  ·rw [if_pos h1, if_pos h1]
  ·rw [if_neg h1, if_neg h1]
   split
   ·rfl
   ·split
    ·rfl
    ·have key : ∀ ks : List Pf, (∀ k ∈ ks, k ∈ p.kids) → ∀ n, looksF u ks n (d + 1) = scanF u (preDs ks (d + 1)) n := by
      intro ks
      induction ks with
      | nil => intro _ n; rw [looksF, preDs, scanF]
      | cons k r ihr =>
       intro hm n
       rw [looksF, preDs, scanF_append, ← ih k (hm k (.head _)) n (d + 1) (by omega), ← ihr fun k hk => hm k (.tail _ hk)]
     exact key _ (fun k hk => hk) _
theorem check_scan (u : Bool) (p : Pf) : checkF u p = (scanF u (preD p 1) 0).2 := by unfold checkF; rw [look_scan u p 0 1 (by decide)]
theorem scanF_take (u : Bool) : ∀ (L : List (Pf × Int)) (n k : Nat), 20001 ≤ n + k → n ≤ 20000 → scanF u (L.take k) n = scanF u L n
 | [], n, k, _, _ => by rw [List.take_nil]
 | x :: r, n, 0, h, h2 => by omega
 | x :: r, n, k + 1, h, h2 => by
  rw [List.take_succ_cons, scanF, scanF]
  split
  ·rfl
  ·split
   ·rfl
   ·split
    ·rfl
    ·exact scanF_take u r (n + 1) k (by omega) (by omega)
theorem look_steps (u : Bool) (p : Pf) : ∀ (n : Nat) (d : Int), (lookF u p n d).2.1 = 0 → (preD p d).map (·.1) = stepsP p ∧ (lookF u p n d).1 = n + (stepsP p).length ∧ ∀ x ∈ preD p d, x.2 ≤ 400 := by
 induction p using Pf.ind with
 | h p ih =>
  intro n d h
  rw [lookF_eq] at h ⊢
  split at h
  ·cases h
  ·rename_i h1
   rw [if_neg h1]
   split at h
   ·cases h
   ·rename_i h2
    rw [if_neg h2]
    split at h
    ·rename_i h3; exact absurd h h3
    ·rename_i h3
     rw [if_neg h3, preD_eq, if_pos (show d < 402 by omega), stepsP_eq]
     have key : ∀ ks : List Pf, (∀ k ∈ ks, k ∈ p.kids) → ∀ n, (looksF u ks n (d + 1)).2.1 = 0 → (preDs ks (d + 1)).map (·.1) = ks.flatMap stepsP ∧ (looksF u ks n (d + 1)).1 = n + (ks.flatMap stepsP).length ∧ ∀ x ∈ preDs ks (d + 1), x.2 ≤ 400 := by
      intro ks
      induction ks with
      | nil => intro _ n h; rw [looksF, preDs]; simp
      | cons k r ihr =>
       intro hm n h
       rw [looksF] at h ⊢
       by_cases h0 : (lookF u k n (d + 1)).2.1 = 0
       ·rw [if_neg (by simpa using h0)] at h ⊢
        obtain ⟨a1, a2, a3⟩ := ih k (hm k (.head _)) n (d + 1) h0
        obtain ⟨b1, b2, b3⟩ := ihr (fun k hk => hm k (.tail _ hk)) _ h
        rw [preDs, List.map_append, a1, b1, List.flatMap_cons, b2, a2]
        refine ⟨rfl, by rw [List.length_append]; omega, fun x hx => ?_⟩
        rcases List.mem_append.1 hx with hx | hx
        ·exact a3 x hx
        ·exact b3 x hx
       ·rw [if_pos h0] at h; exact absurd h h0
     obtain ⟨a1, a2, a3⟩ := key _ (fun k hk => hk) _ h
     rw [List.map_cons, a1, a2]
     refine ⟨rfl, by rw [List.length_cons]; omega, fun x hx => ?_⟩
     rcases List.mem_cons.1 hx with rfl | hx
     ·dsimp only; omega
     ·exact a3 x hx
theorem check_steps {u : Bool} {p : Pf} (h : (checkF u p).1 = 0) : (preD p 1).map (·.1) = stepsP p ∧ (stepsP p).length ≤ 20000 ∧ ∀ x ∈ preD p 1, x.2 ≤ 400 := by
 obtain ⟨a1, a2, a3⟩ := look_steps u p 0 1 h
 have := lookF_le u p 0 1 (by decide) h
 exact ⟨a1, by omega, a3⟩
theorem vastPs_mem : ∀ {l : List Pf} {d : Int}, vastPs l d = false → ∀ k ∈ l, vastP k d = false
 | [], _, _, k, hk => nomatch hk
 | a :: r, d, h, k, hk => by
  rw [vastPs, Bool.or_eq_false_iff] at h
  rcases List.mem_cons.1 hk with rfl | hk
  ·exact h.1
  ·exact vastPs_mem h.2 k hk
theorem vast_szs (p : Pf) : ∀ d, vastP p d = false → Szs p := by
 induction p using Pf.ind with
 | h p ih =>
  intro d h
  rw [vastP_eq] at h
  simp only [Bool.or_eq_false_iff, decide_eq_false_iff_not] at h
  obtain ⟨h1, h2, h3, h4, h5, h6, h7, h8⟩ := h
  exact .mk ⟨by omega, by omega⟩ (fun k hk => ih k hk _ (vastPs_mem h8 k hk)) (by omega)
end Go.Proofs.Ytnoklmapofogeaa
namespace Go.Proofs.Ytnoklmapofogeaa
open Go Go.Pv
theorem withinF_count : ∀ {a b : List Fm}, withinF a b = true ↔ ∀ x, a.count x ≤ b.count x := by
 intro a
 induction a with
 | nil => intro b; simp [withinF]
 | cons f a ih =>
  intro b
  rw [withinF, Bool.and_eq_true, hasF_iff, ih]
  constructor
  ·rintro ⟨hf, h⟩ x
   have := h x
   have h1 := List.count_pos_iff.2 hf
   rw [List.count_erase] at this
   rw [List.count_cons]
   by_cases e : f = x
   ·subst e; simp at this ⊢; omega
   ·have e1 : (f == x) = false := by simpa using e
    simp [e1] at this ⊢; omega
  ·intro h
   have hf := h f
   rw [List.count_cons_self] at hf
   refine ⟨List.count_pos_iff.1 (by omega), fun x => ?_⟩
   have := h x
   rw [List.count_cons] at this
   rw [List.count_erase]
   by_cases e : f = x
   ·subst e; simp at this ⊢; omega
   ·have e1 : (f == x) = false := by simpa using e
    simp [e1] at this ⊢; omega
noncomputable def noMoreB (a b : List Fm) : Bool := a.all fun x => decide (a.count x ≤ b.count x)
theorem noMoreB_eq (a b : List Fm) : noMoreB a b = withinF a b := by
 rw [Bool.eq_iff_iff, withinF_count]
 unfold noMoreB
 rw [List.all_eq_true]
 constructor
 ·intro h x
  by_cases hx : x ∈ a
  ·simpa using h x hx
  ·rw [List.count_eq_zero.2 hx]; exact Nat.zero_le _
 ·intro h x _
  simpa using h x
end Go.Proofs.Ytnoklmapofogeaa
