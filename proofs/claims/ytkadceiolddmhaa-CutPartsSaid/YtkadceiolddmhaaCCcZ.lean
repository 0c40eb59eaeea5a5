import Derived.Test.YtkadceiolddmhaaCCcP
import Derived.Test.YtkadceiolddmhaaCQTn
import Derived.Test.YtkadceiolddmhaaCCcW
set_option linter.unusedVariables false
set_option linter.unusedSimpArgs false
set_option maxRecDepth 100000
set_option maxHeartbeats 4000000
namespace Go.Proofs.Ytkadceiolddmhaa
open Go Go.Pv
mutual
def vastP : Pf → Int → Bool
 | .mk a f l r ks, d => decide (1200 < d) || (decide (1200 < ks.length) || (decide (300 < l.length) || (decide (300 < r.length) || (vastB f 0 || (vastsB l 0 || (vastsB r 0 || vastPs ks (d + 1)))))))
def vastPs : List Pf → Int → Bool
 | [], _ => false
 | p :: r, d => vastP p d || vastPs r d
end
theorem vastP_eq (p : Pf) (d : Int) : vastP p d = (decide (1200 < d) || (decide (1200 < p.kids.length) || (decide (300 < p.l.length) || (decide (300 < p.r.length) || (vastB p.f 0 || (vastsB p.l 0 || (vastsB p.r 0 || vastPs p.kids (d + 1)))))))) := by
 cases p with | mk a f l r ks => rw [vastP]; rfl
theorem vastsD {l : List Fm} {i : Nat} {d : Int} (h : i < l.length) : vastsB (l.drop i) d = (vastB l[i] d || vastsB (l.drop (i + 1)) d) := by
 rw [List.drop_eq_getElem_cons h, vastsB]
theorem vastPs_drop {l : List Pf} {i : Nat} {d : Int} (h : i < l.length) : vastPs (l.drop i) d = (vastP l[i] d || vastPs (l.drop (i + 1)) d) := by
 rw [List.drop_eq_getElem_cons h, vastPs]
def x36_L4 : XC := .seq (.seq (.reg [⟨some 65,.move (.tmp 7),none⟩,⟨some 66,.fieldAddr 64 (.tmp 2) 3,none⟩,⟨some 67,.load 62 (.tmp 66),none⟩,⟨some 68,.call ⟨.builtin .len,#[.tmp 67],#[62]⟩,none⟩,⟨some 69,.binOp .lss 3 (.tmp 65) (.tmp 68) 3,none⟩]) (.cond (.tmp 69) .skip (.exit 4))) (.seq (.block 5 (.seq (.reg [⟨some 72,.fieldAddr 64 (.tmp 2) 3,none⟩,⟨some 73,.load 62 (.tmp 72),none⟩,⟨some 74,.move (.tmp 7),none⟩,⟨some 75,.indexAddr 62 (.tmp 73) (.tmp 74),none⟩,⟨some 76,.load 64 (.tmp 75),none⟩,⟨some 77,.move (.tmp 1),none⟩,⟨some 78,.binOp .add 3 (.tmp 77) (.const (.int .i64 1)) 3,none⟩,⟨some 79,.call ⟨.value (.func 36),#[.tmp 76,.tmp 78],#[64,3]⟩,none⟩]) (.cond (.tmp 79) (.seq (.reg [⟨some 4,.assign (.const (.bool true)),none⟩]) .ret) .skip))) (.reg [⟨some 70,.move (.tmp 7),none⟩,⟨some 71,.binOp .add 3 (.tmp 70) (.const (.int .i64 1)) 3,none⟩,⟨some 7,.assign (.tmp 71),none⟩]))
def x36_T3 : XC := .seq (.seq (.reg [⟨some 7,.assign (.const (.int .i64 0)),none⟩]) (.bloop 4 x36_L4)) (.seq (.reg [⟨some 4,.assign (.const (.bool false)),none⟩]) .ret)
def x36_L2 : XC := .seq (.seq (.reg [⟨some 50,.move (.tmp 6),none⟩,⟨some 51,.fieldAddr 64 (.tmp 2) 2,none⟩,⟨some 52,.fieldAddr 61 (.tmp 51) 1,none⟩,⟨some 53,.load 57 (.tmp 52),none⟩,⟨some 54,.call ⟨.builtin .len,#[.tmp 53],#[57]⟩,none⟩,⟨some 55,.binOp .lss 3 (.tmp 50) (.tmp 54) 3,none⟩]) (.cond (.tmp 55) .skip (.exit 2))) (.seq (.block 3 (.seq (.reg [⟨some 58,.fieldAddr 64 (.tmp 2) 2,none⟩,⟨some 59,.fieldAddr 61 (.tmp 58) 1,none⟩,⟨some 60,.load 57 (.tmp 59),none⟩,⟨some 61,.move (.tmp 6),none⟩,⟨some 62,.indexAddr 57 (.tmp 60) (.tmp 61),none⟩,⟨some 63,.load 59 (.tmp 62),none⟩,⟨some 64,.call ⟨.value (.func 52),#[.tmp 63,.const (.int .i64 0)],#[59,3]⟩,none⟩]) (.cond (.tmp 64) (.seq (.reg [⟨some 4,.assign (.const (.bool true)),none⟩]) .ret) .skip))) (.reg [⟨some 56,.move (.tmp 6),none⟩,⟨some 57,.binOp .add 3 (.tmp 56) (.const (.int .i64 1)) 3,none⟩,⟨some 6,.assign (.tmp 57),none⟩]))
def x36_T1 : XC := .seq (.seq (.reg [⟨some 6,.assign (.const (.int .i64 0)),none⟩]) (.bloop 2 x36_L2)) (x36_T3)
def x36_L0 : XC := .seq (.seq (.reg [⟨some 35,.move (.tmp 5),none⟩,⟨some 36,.fieldAddr 64 (.tmp 2) 2,none⟩,⟨some 37,.fieldAddr 61 (.tmp 36) 0,none⟩,⟨some 38,.load 57 (.tmp 37),none⟩,⟨some 39,.call ⟨.builtin .len,#[.tmp 38],#[57]⟩,none⟩,⟨some 40,.binOp .lss 3 (.tmp 35) (.tmp 39) 3,none⟩]) (.cond (.tmp 40) .skip (.exit 0))) (.seq (.block 1 (.seq (.reg [⟨some 43,.fieldAddr 64 (.tmp 2) 2,none⟩,⟨some 44,.fieldAddr 61 (.tmp 43) 0,none⟩,⟨some 45,.load 57 (.tmp 44),none⟩,⟨some 46,.move (.tmp 5),none⟩,⟨some 47,.indexAddr 57 (.tmp 45) (.tmp 46),none⟩,⟨some 48,.load 59 (.tmp 47),none⟩,⟨some 49,.call ⟨.value (.func 52),#[.tmp 48,.const (.int .i64 0)],#[59,3]⟩,none⟩]) (.cond (.tmp 49) (.seq (.reg [⟨some 4,.assign (.const (.bool true)),none⟩]) .ret) .skip))) (.reg [⟨some 41,.move (.tmp 5),none⟩,⟨some 42,.binOp .add 3 (.tmp 41) (.const (.int .i64 1)) 3,none⟩,⟨some 5,.assign (.tmp 42),none⟩]))
def x36 : XC := .seq (.reg [⟨some 2,.box 64 (.tmp 0),none⟩,⟨some 4,.assign (.const (.bool false)),none⟩]) (.seq (.seq (.reg [⟨some 8,.move (.tmp 1),none⟩,⟨some 9,.binOp .gtr 3 (.tmp 8) (.const (.int .i64 1200)) 3,none⟩,⟨some 10,.move (.tmp 9),none⟩,⟨some 11,.fieldAddr 64 (.tmp 2) 3,some (some 10,false)⟩,⟨some 12,.load 62 (.tmp 11),some (some 10,false)⟩,⟨some 13,.call ⟨.builtin .len,#[.tmp 12],#[62]⟩,some (some 10,false)⟩,⟨some 14,.binOp .gtr 3 (.tmp 13) (.const (.int .i64 1200)) 3,some (some 10,false)⟩,⟨some 15,.pick (.tmp 10) (.const (.bool true)) (.tmp 14),none⟩,⟨some 16,.move (.tmp 15),none⟩,⟨some 17,.fieldAddr 64 (.tmp 2) 2,some (some 16,false)⟩,⟨some 18,.fieldAddr 61 (.tmp 17) 0,some (some 16,false)⟩,⟨some 19,.load 57 (.tmp 18),some (some 16,false)⟩,⟨some 20,.call ⟨.builtin .len,#[.tmp 19],#[57]⟩,some (some 16,false)⟩,⟨some 21,.binOp .gtr 3 (.tmp 20) (.const (.int .i64 300)) 3,some (some 16,false)⟩,⟨some 22,.pick (.tmp 16) (.const (.bool true)) (.tmp 21),none⟩,⟨some 23,.move (.tmp 22),none⟩,⟨some 24,.fieldAddr 64 (.tmp 2) 2,some (some 23,false)⟩,⟨some 25,.fieldAddr 61 (.tmp 24) 1,some (some 23,false)⟩,⟨some 26,.load 57 (.tmp 25),some (some 23,false)⟩,⟨some 27,.call ⟨.builtin .len,#[.tmp 26],#[57]⟩,some (some 23,false)⟩,⟨some 28,.binOp .gtr 3 (.tmp 27) (.const (.int .i64 300)) 3,some (some 23,false)⟩,⟨some 29,.pick (.tmp 23) (.const (.bool true)) (.tmp 28),none⟩,⟨some 30,.move (.tmp 29),none⟩,⟨some 31,.fieldAddr 64 (.tmp 2) 1,some (some 30,false)⟩,⟨some 32,.load 59 (.tmp 31),some (some 30,false)⟩,⟨some 33,.call ⟨.value (.func 52),#[.tmp 32,.const (.int .i64 0)],#[59,3]⟩,some (some 30,false)⟩,⟨some 34,.pick (.tmp 30) (.const (.bool true)) (.tmp 33),none⟩]) (.cond (.tmp 34) (.seq (.reg [⟨some 4,.assign (.const (.bool true)),none⟩]) .ret) .skip)) (.seq (.seq (.reg [⟨some 5,.assign (.const (.int .i64 0)),none⟩]) (.bloop 0 x36_L0)) (x36_T1)))
@[simp] theorem x36_s {C e s K} : type_of% (@X_at C e s K _ _ x36_L4.eq_1) ∧ type_of% (@X_at C e s K _ _ x36_T3.eq_1) ∧ type_of% (@X_at C e s K _ _ x36_L2.eq_1) ∧ type_of% (@X_at C e s K _ _ x36_T1.eq_1) ∧ type_of% (@X_at C e s K _ _ x36_L0.eq_1) ∧ type_of% (@X_at C e s K _ _ x36.eq_1) := ⟨X_at x36_L4.eq_1, X_at x36_T3.eq_1, X_at x36_L2.eq_1, X_at x36_T1.eq_1, X_at x36_L0.eq_1, X_at x36.eq_1⟩
def an36 : Ann := ⟨[], [(4, [], [1, 2, 7], [4]), (2, [], [1, 2, 6], [1, 2, 4]), (0, [], [1, 2, 5], [1, 2, 4])], []⟩
@[simp] theorem an36_a : an36.loopOf 4 = ([], [1, 2, 7], [4]) ∧ an36.loopOf 2 = ([], [1, 2, 6], [1, 2, 4]) ∧ an36.loopOf 0 = ([], [1, 2, 5], [1, 2, 4]) := ⟨rfl, rfl, rfl⟩
theorem fi36 : FI Try.prog 36 (cxA an36) x36 [.tmp 4] Try.f36 := fiA Try.func36 mixed
theorem VastProof_ref (p : Pf) : ∀ d : Int, 0 ≤ d → d ≤ 1201 → CallOK Try.prog 36 [.agg (prf p), .int .i64 d] [] (.bool (vastP p d)) [] := by
 induction p using Pf.ind with
 | h p ih =>
  intro d hd0 hd1
  have hv := fun f => vast_ref f 0 (by decide) (by decide) []
  refine fi36.op ?_
  rw [vastP_eq]
  by_cases h1 : 1200 < d
  ·((refine Sg.h ?_); try repeat' ((first | (with_reducible first | refine brA ?_ | refine brE fun _ => ?_ | (refine spl ⟨?_, ?_⟩ <;> intro _))) <;> ((try simp -implicitDefEqProofs [h1]); (try simp -implicitDefEqProofs (disch := first | assumption | (try simp only [lens]); omega -splitDisjunctions) [h1]))))
  ·by_cases h2 : 1200 < p.kids.length
   ·have h2i : (1200 : Int) < (p.kids.length : Int) := by omega
    ((refine Sg.h ?_); try repeat' ((first | (with_reducible first | refine brA ?_ | refine brE fun _ => ?_ | (refine spl ⟨?_, ?_⟩ <;> intro _))) <;> ((try simp -implicitDefEqProofs [h1, h2, h2i]); (try simp -implicitDefEqProofs (disch := first | assumption | (try simp only [lens]); omega -splitDisjunctions) [h1, h2, h2i]))))
   ·have h2i : ¬ (1200 : Int) < (p.kids.length : Int) := by omega
    by_cases h3 : 300 < p.l.length
    ·have h3i : (300 : Int) < (p.l.length : Int) := by omega
     ((refine Sg.h ?_); try repeat' ((first | (with_reducible first | refine brA ?_ | refine brE fun _ => ?_ | (refine spl ⟨?_, ?_⟩ <;> intro _))) <;> ((try simp -implicitDefEqProofs [h1, h2, h2i, h3, h3i]); (try simp -implicitDefEqProofs (disch := first | assumption | (try simp only [lens]); omega -splitDisjunctions) [h1, h2, h2i, h3, h3i]))))
    ·have h3i : ¬ (300 : Int) < (p.l.length : Int) := by omega
     by_cases h4 : 300 < p.r.length
     ·have h4i : (300 : Int) < (p.r.length : Int) := by omega
      ((refine Sg.h ?_); try repeat' ((first | (with_reducible first | refine brA ?_ | refine brE fun _ => ?_ | (refine spl ⟨?_, ?_⟩ <;> intro _))) <;> ((try simp -implicitDefEqProofs [h1, h2, h2i, h3, h3i, h4, h4i]); (try simp -implicitDefEqProofs (disch := first | assumption | (try simp only [lens]); omega -splitDisjunctions) [h1, h2, h2i, h3, h3i, h4, h4i]))))
     ·have h4i : ¬ (300 : Int) < (p.r.length : Int) := by omega
      cases h5 : vastB p.f 0 with
      | true =>
       have hvf := hv p.f
       rw [h5] at hvf
       ((refine Sg.h ?_); try repeat' ((first | (with_reducible first | refine brA ?_ | refine brE fun _ => ?_ | (refine spl ⟨?_, ?_⟩ <;> intro _)) | refine clo hvf ?_) <;> ((try simp -implicitDefEqProofs [h1, h2, h2i, h3, h3i, h4, h4i]); (try simp -implicitDefEqProofs (disch := first | assumption | (try simp only [lens]); omega -splitDisjunctions) [h1, h2, h2i, h3, h3i, h4, h4i]))))
      | false =>
       have hvf := hv p.f
       rw [h5] at hvf
       simp only [h1, h2, h3, h4, decide_false, Bool.false_or]
       ((refine Sg.h ?_); try repeat' ((first | (with_reducible first | refine brA ?_ | refine brE fun _ => ?_ | (refine spl ⟨?_, ?_⟩ <;> intro _)) | refine clo hvf ?_) <;> ((try simp -implicitDefEqProofs [h1, h2i, h3i, h4i]); (try simp -implicitDefEqProofs (disch := first | assumption | (try simp only [lens]); omega -splitDisjunctions) [h1, h2i, h3i, h4i]))))
       refine W_of fun Q hQ => ?_
       have k1 : ∀ n i, i + n = p.l.length → vastsB (p.l.drop i) 0 = vastsB p.l 0 → Q [(1, PV.int IntKind.i64 d), (2, PV.ptr 0 0 0), (5, PV.int IntKind.i64 (i : Int))] [PObj.rows 7 [prf p]] := by
        intro n
        induction n with
        | zero =>
         intro i hi he
         rw [List.drop_of_length_le (by omega), vastsB] at he
         rw [← he] at hQ
         obtain rfl : i = p.l.length := by omega
         apply hQ
         clear hQ
         ((refine Sg.h ?_); try repeat' ((first | (with_reducible first | refine brA ?_ | refine brE fun _ => ?_ | (refine spl ⟨?_, ?_⟩ <;> intro _))) <;> ((try simp -implicitDefEqProofs); (try simp -implicitDefEqProofs (disch := first | assumption | (try simp only [lens]); omega -splitDisjunctions)))))
         refine W_of fun Q hQ => ?_
         have k2 : ∀ n i, i + n = p.r.length → vastsB (p.r.drop i) 0 = vastsB p.r 0 → Q [(1, PV.int IntKind.i64 d), (2, PV.ptr 0 0 0), (6, PV.int IntKind.i64 (i : Int))] [PObj.rows 7 [prf p]] := by
          intro n
          induction n with
          | zero =>
           intro i hi he
           rw [List.drop_of_length_le (by omega), vastsB] at he
           rw [← he] at hQ
           obtain rfl : i = p.r.length := by omega
           apply hQ
           clear hQ
           ((refine Sg.h ?_); try repeat' ((first | (with_reducible first | refine brA ?_ | refine brE fun _ => ?_ | (refine spl ⟨?_, ?_⟩ <;> intro _))) <;> ((try simp -implicitDefEqProofs); (try simp -implicitDefEqProofs (disch := first | assumption | (try simp only [lens]); omega -splitDisjunctions)))))
           refine W_of fun Q hQ => ?_
           have k3 : ∀ n i, i + n = p.kids.length → vastPs (p.kids.drop i) (d + 1) = vastPs p.kids (d + 1) → Q [(1, PV.int IntKind.i64 d), (2, PV.ptr 0 0 0), (7, PV.int IntKind.i64 (i : Int))] [PObj.rows 7 [prf p]] := by
            intro n
            induction n with
            | zero =>
             intro i hi he
             rw [List.drop_of_length_le (by omega), vastPs] at he
             rw [← he] at hQ
             obtain rfl : i = p.kids.length := by omega
             apply hQ
             clear hQ
             ((refine Sg.h ?_); try repeat' ((first | (with_reducible first | refine brA ?_ | refine brE fun _ => ?_ | (refine spl ⟨?_, ?_⟩ <;> intro _))) <;> ((try simp -implicitDefEqProofs); (try simp -implicitDefEqProofs (disch := first | assumption | (try simp only [lens]); omega -splitDisjunctions)))))
            | succ n ihn =>
             intro i hi he
             have hil : i < p.kids.length := by omega
             have ihn := ihn (i + 1) (by omega)
             rw [vastPs_drop hil] at he
             have hc := ih _ (List.getElem_mem hil) (d + 1) (by omega) (by omega)
             generalize vastP p.kids[i] (d + 1) = B at *
             apply hQ
             clear hQ
             cases hb : B with
             | true =>
              rw [hb] at hc he
              rw [← he]
              ((refine Sg.h ?_); try repeat' ((first | (with_reducible first | refine brA ?_ | refine brE fun _ => ?_ | (refine spl ⟨?_, ?_⟩ <;> intro _)) | refine clo hc ?_) <;> ((try simp -implicitDefEqProofs [hil]); (try simp -implicitDefEqProofs (disch := first | assumption | (try simp only [lens]); omega -splitDisjunctions) [hil]))))
             | false =>
              rw [hb] at hc he
              have ihn := ihn he
              ((refine Sg.h ?_); try repeat' ((first | (with_reducible first | refine brA ?_ | refine brE fun _ => ?_ | (refine spl ⟨?_, ?_⟩ <;> intro _)) | refine clo hc ?_) <;> ((try simp -implicitDefEqProofs [hil]); (try simp -implicitDefEqProofs (disch := first | assumption | (try simp only [lens]); omega -splitDisjunctions) [hil]))))
              all_goals first | exact ihn | (refine at2 ihn ?_ ?_ <;> simp; done) | (exfalso; first | omega | (simp_all; done) | (simp_all; omega))
           have m0 := k3 _ 0 (Nat.zero_add _) (by simp)
           all_goals first | exact m0 | (refine at2 m0 ?_ ?_ <;> simp; done) | (exfalso; first | omega | (simp_all; done) | (simp_all; omega))
          | succ n ihn =>
           intro i hi he
           have hil : i < p.r.length := by omega
           have ihn := ihn (i + 1) (by omega)
           rw [vastsD hil] at he
           have hc := hv p.r[i]
           generalize vastB p.r[i] 0 = B at *
           apply hQ
           clear hQ
           cases hb : B with
           | true =>
            rw [hb] at hc he
            rw [← he]
            ((refine Sg.h ?_); try repeat' ((first | (with_reducible first | refine brA ?_ | refine brE fun _ => ?_ | (refine spl ⟨?_, ?_⟩ <;> intro _)) | refine clo hc ?_) <;> ((try simp -implicitDefEqProofs [hil]); (try simp -implicitDefEqProofs (disch := first | assumption | (try simp only [lens]); omega -splitDisjunctions) [hil]))))
           | false =>
            rw [hb] at hc he
            have ihn := ihn he
            ((refine Sg.h ?_); try repeat' ((first | (with_reducible first | refine brA ?_ | refine brE fun _ => ?_ | (refine spl ⟨?_, ?_⟩ <;> intro _)) | refine clo hc ?_) <;> ((try simp -implicitDefEqProofs [hil]); (try simp -implicitDefEqProofs (disch := first | assumption | (try simp only [lens]); omega -splitDisjunctions) [hil]))))
            all_goals first | exact ihn | (refine at2 ihn ?_ ?_ <;> simp; done) | (exfalso; first | omega | (simp_all; done) | (simp_all; omega))
         have m0 := k2 _ 0 (Nat.zero_add _) (by simp)
         all_goals first | exact m0 | (refine at2 m0 ?_ ?_ <;> simp; done) | (exfalso; first | omega | (simp_all; done) | (simp_all; omega))
        | succ n ihn =>
         intro i hi he
         have hil : i < p.l.length := by omega
         have ihn := ihn (i + 1) (by omega)
         rw [vastsD hil] at he
         have hc := hv p.l[i]
         generalize vastB p.l[i] 0 = B at *
         apply hQ
         clear hQ
         cases hb : B with
         | true =>
          rw [hb] at hc he
          rw [← he]
          ((refine Sg.h ?_); try repeat' ((first | (with_reducible first | refine brA ?_ | refine brE fun _ => ?_ | (refine spl ⟨?_, ?_⟩ <;> intro _)) | refine clo hc ?_) <;> ((try simp -implicitDefEqProofs [hil]); (try simp -implicitDefEqProofs (disch := first | assumption | (try simp only [lens]); omega -splitDisjunctions) [hil]))))
         | false =>
          rw [hb] at hc he
          have ihn := ihn he
          ((refine Sg.h ?_); try repeat' ((first | (with_reducible first | refine brA ?_ | refine brE fun _ => ?_ | (refine spl ⟨?_, ?_⟩ <;> intro _)) | refine clo hc ?_) <;> ((try simp -implicitDefEqProofs [hil]); (try simp -implicitDefEqProofs (disch := first | assumption | (try simp only [lens]); omega -splitDisjunctions) [hil]))))
          all_goals first | exact ihn | (refine at2 ihn ?_ ?_ <;> simp; done) | (exfalso; first | omega | (simp_all; done) | (simp_all; omega))
       have m0 := k1 _ 0 (Nat.zero_add _) (by simp)
       all_goals first | exact m0 | (refine at2 m0 ?_ ?_ <;> simp; done) | (exfalso; first | omega | (simp_all; done) | (simp_all; omega))
end Go.Proofs.Ytkadceiolddmhaa
namespace Go.Proofs.Ytkadceiolddmhaa
open Go Go.Pv
mutual
def preD : Pf → Int → List (Pf × Int)
 | .mk a f l r ks, d => (.mk a f l r ks, d) :: if d < 402 then preDs ks (d + 1) else []
def preDs : List Pf → Int → List (Pf × Int)
 | [], _ => []
 | p :: r, d => preD p d ++ preDs r d
end
theorem preDs_eq (l : List Pf) (d : Int) : preDs l d = l.flatMap fun p => preD p d := by
 induction l with
 | nil => rfl
 | cons p r ih => rw [preDs, ih]; rfl
theorem preD_eq (p : Pf) (d : Int) : preD p d = (p, d) :: if d < 402 then preDs p.kids (d + 1) else [] := by
 cases p with | mk a f l r ks => rw [preD]; rfl
noncomputable def scanF (u : Bool) : List (Pf × Int) → Nat → Nat × (Int × Int)
 | [], n => (n, (0, 0))
 | x :: r, n => if 20000 ≤ n ∨ 400 < x.2 then (n + 1, (2, 0)) else
  if (sequentF x.1.l x.1.r).1 ≠ 0 ∨ (u = true ∧ 1 < x.1.r.length) then (n + 1, (5, (n : Int))) else
  if stepF u x.1 ≠ 0 then (n + 1, (stepF u x.1, (n : Int))) else scanF u r (n + 1)
theorem scanF_append (u : Bool) (b : List (Pf × Int)) : ∀ (a : List (Pf × Int)) (n : Nat), scanF u (a ++ b) n = if (scanF u a n).2.1 ≠ 0 then scanF u a n else scanF u b (scanF u a n).1
 | [], n => by rw [List.nil_append]; simp [scanF]
 | x :: r, n => by
  rw [List.cons_append, scanF, scanF]
  split
  ·rw [if_pos (by simp)]
  ·split
   ·rw [if_pos (by simp)]
   ·split
    ·rfl
    ·exact scanF_append u b r (n + 1)
theorem look_scan (u : Bool) (p : Pf) : ∀ (n : Nat) (d : Int), d ≤ 401 → lookF u p n d = scanF u (preD p d) n := by
 induction p using Pf.ind with
 | h p ih =>
  intro n d hd
  rw [lookF_eq, preD_eq, scanF, if_pos (show d < 402 by omega)]
  dsimp only
  by_cases h1 : 20000 ≤ n ∨ 400 < d
  ·rw [if_pos h1, if_pos h1]
  ·rw [if_neg h1, if_neg h1]
   split
   ·rfl
   ·split
    ·rfl
    ·have key : ∀ ks : List Pf, (∀ k ∈ ks, k ∈ p.kids) → ∀ n, looksF u ks n (d + 1) = scanF u (preDs ks (d + 1)) n := by
      intro ks
      induction ks with
      | nil => intro _ n; rw [looksF, preDs, scanF]
      | cons k r ihr =>
       intro hm n
       rw [looksF, preDs, scanF_append, ← ih k (hm k (.head _)) n (d + 1) (by omega), ← ihr fun k hk => hm k (.tail _ hk)]
     exact key _ (fun k hk => hk) _
theorem check_scan (u : Bool) (p : Pf) : checkF u p = (scanF u (preD p 1) 0).2 := by unfold checkF; rw [look_scan u p 0 1 (by decide)]
theorem look_steps (u : Bool) (p : Pf) : ∀ (n : Nat) (d : Int), (lookF u p n d).2.1 = 0 → (preD p d).map (·.1) = stepsP p ∧ (lookF u p n d).1 = n + (stepsP p).length ∧ ∀ x ∈ preD p d, x.2 ≤ 400 := by
 induction p using Pf.ind with
 | h p ih =>
  intro n d h
  rw [lookF_eq] at h ⊢
  split at h
  ·cases h
  ·rename_i h1
   rw [if_neg h1]
   split at h
   ·cases h
   ·rename_i h2
    rw [if_neg h2]
    split at h
    ·rename_i h3; exact absurd h h3
    ·rename_i h3
     rw [if_neg h3, preD_eq, if_pos (show d < 402 by omega), stepsP_eq]
     have key : ∀ ks : List Pf, (∀ k ∈ ks, k ∈ p.kids) → ∀ n, (looksF u ks n (d + 1)).2.1 = 0 → (preDs ks (d + 1)).map (·.1) = ks.flatMap stepsP ∧ (looksF u ks n (d + 1)).1 = n + (ks.flatMap stepsP).length ∧ ∀ x ∈ preDs ks (d + 1), x.2 ≤ 400 := by
      intro ks
      induction ks with
      | nil => intro _ n h; rw [looksF, preDs]; simp
      | cons k r ihr =>
       intro hm n h
       rw [looksF] at h ⊢
       by_cases h0 : (lookF u k n (d + 1)).2.1 = 0
       ·rw [if_neg (by simpa using h0)] at h ⊢
        obtain ⟨a1, a2, a3⟩ := ih k (hm k (.head _)) n (d + 1) h0
        obtain ⟨b1, b2, b3⟩ := ihr (fun k hk => hm k (.tail _ hk)) _ h
        rw [preDs, List.map_append, a1, b1, List.flatMap_cons, b2, a2]
        refine ⟨rfl, by rw [List.length_append]; omega, fun x hx => ?_⟩
        rcases List.mem_append.1 hx with hx | hx
        ·exact a3 x hx
        ·exact b3 x hx
       ·rw [if_pos h0] at h; exact absurd h h0
     obtain ⟨a1, a2, a3⟩ := key _ (fun k hk => hk) _ h
     rw [List.map_cons, a1, a2]
     refine ⟨rfl, by rw [List.length_cons]; omega, fun x hx => ?_⟩
     rcases List.mem_cons.1 hx with rfl | hx
     ·dsimp only; omega
     ·exact a3 x hx
theorem check_steps {u : Bool} {p : Pf} (h : (checkF u p).1 = 0) : (preD p 1).map (·.1) = stepsP p ∧ (stepsP p).length ≤ 20000 ∧ ∀ x ∈ preD p 1, x.2 ≤ 400 := by
 obtain ⟨a1, a2, a3⟩ := look_steps u p 0 1 h
 have := lookF_le u p 0 1 (by decide) h
 exact ⟨a1, by omega, a3⟩
theorem vastPs_mem : ∀ {l : List Pf} {d : Int}, vastPs l d = false → ∀ k ∈ l, vastP k d = false
 | [], _, _, k, hk => nomatch hk
 | a :: r, d, h, k, hk => by
  rw [vastPs, Bool.or_eq_false_iff] at h
  rcases List.mem_cons.1 hk with rfl | hk
  ·exact h.1
  ·exact vastPs_mem h.2 k hk
theorem vast_szs (p : Pf) : ∀ d, vastP p d = false → Szs p := by
 induction p using Pf.ind with
 | h p ih =>
  intro d h
  rw [vastP_eq] at h
  simp only [Bool.or_eq_false_iff, decide_eq_false_iff_not] at h
  obtain ⟨h1, h2, h3, h4, h5, h6, h7, h8⟩ := h
  exact .mk ⟨by omega, by omega⟩ (fun k hk => ih k hk _ (vastPs_mem h8 k hk)) (by omega)
end Go.Proofs.Ytkadceiolddmhaa
namespace Go.Proofs.Ytkadceiolddmhaa
open Go Go.Pv
theorem preDs_snoc (l : List Pf) (q : Pf) (d : Int) : preDs (l ++ [q]) d = preDs l d ++ preD q d := by
 rw [preDs_eq, preDs_eq, List.flatMap_append]; simp
def depRow (x : Pf × Int) : List PV := [.int .i64 x.2]
def stpRow (x : Pf × Int) : List PV := prf x.1
@[simp] theorem stpRow_eq (x : Pf × Int) : stpRow x = prf x.1 := rfl
@[simp] theorem depRow_eq (x : Pf × Int) : depRow x = [.int .i64 x.2] := rfl
instance : FlatRow stpRow := ⟨fun x => prf_flat x.1⟩
instance : FlatRow depRow := ⟨fun x => rfl⟩
def x39_T1 : XC := .seq (.reg [⟨some 55,.move (.tmp 8),none⟩,⟨some 56,.move (.tmp 9),none⟩,⟨some 6,.assign (.tmp 55),none⟩,⟨some 7,.assign (.tmp 56),none⟩]) .ret
def x39_L0 : XC := .seq (.seq (.reg [⟨some 17,.move (.tmp 10),none⟩,⟨some 18,.fieldAddr 64 (.tmp 3) 3,none⟩,⟨some 19,.load 62 (.tmp 18),none⟩,⟨some 20,.call ⟨.builtin .len,#[.tmp 19],#[62]⟩,none⟩,⟨some 21,.binOp .lss 3 (.tmp 17) (.tmp 20) 3,none⟩,⟨some 22,.move (.tmp 21),none⟩,⟨some 23,.move (.tmp 8),some (some 22,true)⟩,⟨some 24,.call ⟨.builtin .len,#[.tmp 23],#[62]⟩,some (some 22,true)⟩,⟨some 25,.move (.tmp 2),some (some 22,true)⟩,⟨some 26,.binOp .leq 3 (.tmp 24) (.tmp 25) 3,some (some 22,true)⟩,⟨some 27,.pick (.tmp 22) (.tmp 26) (.const (.bool false)),none⟩,⟨some 28,.move (.tmp 27),none⟩,⟨some 29,.move (.tmp 1),some (some 28,true)⟩,⟨some 30,.binOp .lss 3 (.tmp 29) (.const (.int .i64 402)) 3,some (some 28,true)⟩,⟨some 31,.pick (.tmp 28) (.tmp 30) (.const (.bool false)),none⟩]) (.cond (.tmp 31) .skip (.exit 0))) (.seq (.block 1 (.seq (.reg [⟨some 35,.fieldAddr 64 (.tmp 3) 3,none⟩,⟨some 36,.load 62 (.tmp 35),none⟩,⟨some 37,.move (.tmp 10),none⟩,⟨some 38,.indexAddr 62 (.tmp 36) (.tmp 37),none⟩,⟨some 39,.load 64 (.tmp 38),none⟩,⟨some 40,.move (.tmp 1),none⟩,⟨some 41,.binOp .add 3 (.tmp 40) (.const (.int .i64 1)) 3,none⟩,⟨some 42,.move (.tmp 2),none⟩,⟨some 43,.move (.tmp 8),none⟩,⟨some 44,.call ⟨.builtin .len,#[.tmp 43],#[62]⟩,none⟩,⟨some 45,.binOp .sub 3 (.tmp 42) (.tmp 44) 3,none⟩,⟨some 46,.call ⟨.value (.func 39),#[.tmp 39,.tmp 41,.tmp 45],#[64,3,3]⟩,none⟩,⟨some 34,.move (.tmp 46),none⟩,⟨some 47,.extract (.tmp 34) 0,none⟩,⟨some 48,.extract (.tmp 34) 1,none⟩,⟨some 11,.assign (.tmp 47),none⟩,⟨some 12,.assign (.tmp 48),none⟩]) (.seq (.reg [⟨some 49,.move (.tmp 8),none⟩,⟨some 50,.move (.tmp 11),none⟩,⟨some 51,.call ⟨.builtin .append,#[.tmp 49,.tmp 50],#[62,62]⟩,none⟩,⟨some 8,.assign (.tmp 51),none⟩]) (.reg [⟨some 52,.move (.tmp 9),none⟩,⟨some 53,.move (.tmp 12),none⟩,⟨some 54,.call ⟨.builtin .append,#[.tmp 52,.tmp 53],#[46,46]⟩,none⟩,⟨some 9,.assign (.tmp 54),none⟩])))) (.reg [⟨some 32,.move (.tmp 10),none⟩,⟨some 33,.binOp .add 3 (.tmp 32) (.const (.int .i64 1)) 3,none⟩,⟨some 10,.assign (.tmp 33),none⟩]))
def x39 : XC := .seq (.reg [⟨some 3,.box 64 (.tmp 0),none⟩,⟨some 6,.assign (.const (.slice none 0 0)),none⟩,⟨some 7,.assign (.const (.slice none 0 0)),none⟩]) (.seq (.reg [⟨some 13,.load 64 (.tmp 3),none⟩,⟨some 14,.buildSlice 62 1 #[(0,.tmp 13)],none⟩,⟨some 8,.assign (.tmp 14),none⟩]) (.seq (.reg [⟨some 15,.move (.tmp 1),none⟩,⟨some 16,.buildSlice 46 1 #[(0,.tmp 15)],none⟩,⟨some 9,.assign (.tmp 16),none⟩]) (.seq (.seq (.reg [⟨some 10,.assign (.const (.int .i64 0)),none⟩]) (.bloop 0 x39_L0)) (x39_T1))))
@[simp] theorem x39_s {C e s K} : type_of% (@X_at C e s K _ _ x39_T1.eq_1) ∧ type_of% (@X_at C e s K _ _ x39_L0.eq_1) ∧ type_of% (@X_at C e s K _ _ x39.eq_1) := ⟨X_at x39_T1.eq_1, X_at x39_L0.eq_1, X_at x39.eq_1⟩
def an39 : Ann := ⟨[], [(0, [(8, none, 7), (9, none, 1)], [1, 2, 3, 8, 9, 10], [8, 9])], []⟩
@[simp] theorem an39_a : an39.loopOf 0 = ([(8, none, 7), (9, none, 1)], [1, 2, 3, 8, 9, 10], [8, 9]) := rfl
theorem fi39 : FI Try.prog 39 (cxA an39) x39 [.tmp 6, .tmp 7] Try.f39 := fiA Try.func39 mixed
theorem Steps_ref (p : Pf) (hp : Szs p) : ∀ (d : Int) (m : Nat), 1 ≤ d → d ≤ 402 → m ≤ 20001 → CallOK Try.prog 39 [.agg (prf p), .int .i64 d, .int .i64 (m : Int)] [] (.tuple [.list (((preD p d).take (m + 1)).map stpRow), .list (((preD p d).take (m + 1)).map depRow)]) [] := by
 induction p using Pf.ind with
 | h p ih =>
  intro d m hd0 hd hm
  have hkl := hp.len
  refine fi39.op ?_
  rw [preD_eq, List.take_succ_cons]
  generalize hR : (p, d) :: (if d < 402 then preDs p.kids (d + 1) else []).take m = R
  ((refine Sg.h ?_); try repeat' ((first | (with_reducible first | refine brA ?_ | refine brE fun _ => ?_ | (refine spl ⟨?_, ?_⟩ <;> intro _))) <;> ((try simp -implicitDefEqProofs); (try simp -implicitDefEqProofs (disch := first | assumption | (try simp only [lens]); omega -splitDisjunctions)))))
  refine W_of fun Q hQ => ?_
  by_cases hd2 : d < 402
  ·rw [if_pos hd2] at hR
   have main : ∀ r i (A : List (Pf × Int)), i + r = p.kids.length → A = preDs (p.kids.take i) (d + 1) → Q [(1, .int .i64 d), (2, .int .i64 (m : Int)), (3, .ptr 0 0 0), (8, .sl 1 0 ((p, d) :: A.take m).length), (9, .sl 2 0 ((p, d) :: A.take m).length), (10, .int .i64 (i : Int))] [.rows 7 [prf p], .rows 7 (((p, d) :: A.take m).map stpRow), .rows 1 (((p, d) :: A.take m).map depRow)] := by
    intro r
    induction r with
    | zero =>
     intro i A hi hA
     obtain rfl : i = p.kids.length := by omega
     rw [List.take_length] at hA
     rw [← hA] at hR
     rw [hR]
     apply hQ
     clear hQ
     ((refine Sg.h ?_); try repeat' ((first | (with_reducible first | refine brA ?_ | refine brE fun _ => ?_ | (refine spl ⟨?_, ?_⟩ <;> intro _))) <;> ((try simp -implicitDefEqProofs); (try simp -implicitDefEqProofs (disch := first | assumption | (try simp only [lens]); omega -splitDisjunctions)))))
    | succ r ihr =>
     intro i A hi hA
     have hil : i < p.kids.length := by omega
     have hl : ((p, d) :: A.take m).length = 1 + min m A.length := by rw [List.length_cons, List.length_take]; omega
     by_cases hm2 : A.length < m
     ·have hc := ih p.kids[i] (List.getElem_mem hil) (hp.kid (List.getElem_mem hil)) (d + 1) (m - 1 - A.length) (by omega) (by omega) (by omega)
      have ihr := ihr (i + 1) (A ++ preD p.kids[i] (d + 1)) (by omega) (by rw [take_snoc hil, preDs_snoc, hA])
      rw [List.take_append] at ihr
      rw [show m - 1 - A.length + 1 = m - A.length from by omega] at hc
      have hle : (((p, d) :: A.take m).length : Int) ≤ (m : Int) := by omega
      have hsub : (m : Int) - (((p, d) :: A.take m).length : Int) = ((m - 1 - A.length : Nat) : Int) := by omega
      rw [← hsub] at hc
      rw [← List.cons_append] at ihr
      have hll : ((preD p.kids[i] (d + 1)).take (m - A.length)).length ≤ 20001 := by rw [List.length_take]; omega
      generalize (preD p.kids[i] (d + 1)).take (m - A.length) = B at *
      generalize (p, d) :: A.take m = L at *
      clear hR hA hl
      apply hQ
      clear hQ
      ((refine Sg.h ?_); try repeat' ((first | (with_reducible first | refine brA ?_ | refine brE fun _ => ?_ | (refine spl ⟨?_, ?_⟩ <;> intro _)) | refine clo hc ?_) <;> ((try simp -implicitDefEqProofs [hil, hle, hd2]); (try simp -implicitDefEqProofs (disch := first | assumption | (try simp only [lens]); omega -splitDisjunctions) [hil, hle, hd2]))))
      refine ⟨⟨by rintro _ x y _ rfl; simp, by omega⟩, ⟨by rintro _ x y _ rfl; simp, by omega⟩, ?_⟩
      all_goals first | exact ihr | (refine at2 ihr ?_ ?_ <;> simp; done) | (exfalso; first | omega | (simp_all; done) | (simp_all; omega))
     ·have hle : ¬ (((p, d) :: A.take m).length : Int) ≤ (m : Int) := by omega
      have he : (p, d) :: A.take m = R := by
       rw [← hR]
       congr 1
       have : preDs p.kids (d + 1) = A ++ preDs (p.kids.drop i) (d + 1) := by
        rw [hA, preDs_eq, preDs_eq, preDs_eq, ← List.flatMap_append, List.take_append_drop]
       rw [this, List.take_append_of_le_length (by omega)]
      rw [he] at hle ⊢
      apply hQ
      clear hQ
      ((refine Sg.h ?_); try repeat' ((first | (with_reducible first | refine brA ?_ | refine brE fun _ => ?_ | (refine spl ⟨?_, ?_⟩ <;> intro _))) <;> ((try simp -implicitDefEqProofs [hil, hle]); (try simp -implicitDefEqProofs (disch := first | assumption | (try simp only [lens]); omega -splitDisjunctions) [hil, hle]))))
   have m0 := main _ 0 [] (Nat.zero_add _) rfl
   all_goals first | exact m0 | (refine at2 m0 ?_ ?_ <;> simp; done) | (exfalso; first | omega | (simp_all; done) | (simp_all; omega))
  ·rw [if_neg hd2] at hR
   subst hR
   apply hQ
   clear hQ
   ((refine Sg.h ?_); try repeat' ((first | (with_reducible first | refine brA ?_ | refine brE fun _ => ?_ | (refine spl ⟨?_, ?_⟩ <;> intro _))) <;> ((try simp -implicitDefEqProofs [hd2]); (try simp -implicitDefEqProofs (disch := first | assumption | (try simp only [lens]); omega -splitDisjunctions) [hd2]))))
end Go.Proofs.Ytkadceiolddmhaa
namespace Go.Proofs.Ytkadceiolddmhaa
open Go Go.Pv
theorem step_plain {u : Bool} {p : Pf} (h : stepF u p = 0) (hw : p.rule ≠ ⟨#[119, 101, 97, 107]⟩) : (plainF p.f).1 = 0 := by
 unfold stepF at h
 rw [if_neg hw] at h
 split at h
 ·cases h
 ·split at h
  ·cases h
  ·rename_i hp; exact Classical.byContradiction hp
theorem fine_steps {u : Bool} {p : Pf} (h : Fine u p) : ∀ s ∈ stepsP p, okT s := by
 induction h with
 | mk hs hi h hk ih =>
  intro s hm
  rw [stepsP_eq] at hm
  rcases List.mem_cons.1 hm with rfl | hm
  ·exact ⟨hs, fun hw => step_plain h hw⟩
  ·obtain ⟨k, hk, hm⟩ := List.mem_flatMap.1 hm
   exact ih k hk s hm
theorem szs_steps {p : Pf} (h : Szs p) : ∀ s ∈ stepsP p, s.l.length ≤ 40000 ∧ s.r.length ≤ 40000 := by
 induction h with
 | mk h hk hl ih =>
  intro s hm
  rw [stepsP_eq] at hm
  rcases List.mem_cons.1 hm with rfl | hm
  ·exact ⟨h.l, h.r⟩
  ·obtain ⟨k, hk, hm⟩ := List.mem_flatMap.1 hm
   exact ih k hk s hm
end Go.Proofs.Ytkadceiolddmhaa
