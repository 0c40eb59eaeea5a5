import Derived.Test.YtcllmionhlmjfaaBPvQt
import Derived.Test.YtcllmionhlmjfaaBTPa
set_option linter.unusedVariables false
set_option linter.unusedSimpArgs false
set_option maxRecDepth 100000
set_option maxHeartbeats 4000000
namespace Go.Proofs.Ytcllmionhlmjfaa
open Go Go.Pv
def x105 : XC := .seq (.reg [⟨some 2,.assign (.const (.int .i64 0)),none⟩]) (.seq (.seq (.reg [⟨some 3,.move (.tmp 0),none⟩]) (.block 0 (.seq (.reg [⟨some 5,.binOp .eql 3 (.tmp 3) (.const (.int .i64 7)) 3,none⟩,⟨some 4,.assign (.tmp 5),none⟩]) (.cond (.tmp 4) (.seq (.reg [⟨some 2,.assign (.const (.int .i64 1)),none⟩]) .ret) (.seq (.reg [⟨some 7,.binOp .eql 3 (.tmp 3) (.const (.int .i64 6)) 3,none⟩,⟨some 6,.assign (.tmp 7),none⟩]) (.cond (.tmp 6) (.seq (.reg [⟨some 2,.assign (.const (.int .i64 2)),none⟩]) .ret) (.seq (.reg [⟨some 9,.binOp .eql 3 (.tmp 3) (.const (.int .i64 5)) 3,none⟩,⟨some 8,.assign (.tmp 9),none⟩]) (.cond (.tmp 8) (.seq (.reg [⟨some 2,.assign (.const (.int .i64 3)),none⟩]) .ret) .skip)))))))) (.seq (.reg [⟨some 2,.assign (.const (.int .i64 4)),none⟩]) .ret))
@[simp] theorem x105_s {C e s K} : type_of% (@X_at C e s K _ _ x105.eq_1) := X_at x105.eq_1
def an105 : Ann := ⟨[], [], []⟩
theorem fi105 : FI Try.prog 105 (cxA an105) x105 [.tmp 2] Try.f105 := fiA Try.func105 mixed
def x79 : XC := .seq (.reg [⟨some 2,.box 24 (.tmp 0),none⟩,⟨some 4,.assign (.const (.string ⟨#[]⟩)),none⟩]) (.seq (.reg [⟨some 5,.assign (.const (.string ⟨#[]⟩)),none⟩]) (.seq (.reg [⟨some 7,.fieldAddr 24 (.tmp 2) 0,none⟩,⟨some 8,.load 3 (.tmp 7),none⟩,⟨some 9,.call ⟨.value (.func 105),#[.tmp 8],#[3]⟩,none⟩,⟨some 6,.assign (.tmp 9),none⟩]) (.seq (.seq (.reg [⟨some 10,.fieldAddr 24 (.tmp 2) 0,none⟩,⟨some 11,.load 3 (.tmp 10),none⟩]) (.block 0 (.seq (.reg [⟨some 13,.binOp .eql 3 (.tmp 11) (.const (.int .i64 1)) 3,none⟩,⟨some 12,.assign (.tmp 13),none⟩]) (.cond (.tmp 12) (.reg [⟨some 14,.fieldAddr 24 (.tmp 2) 1,none⟩,⟨some 15,.load 9 (.tmp 14),none⟩,⟨some 5,.assign (.tmp 15),none⟩]) (.seq (.reg [⟨some 17,.binOp .eql 3 (.tmp 11) (.const (.int .i64 2)) 3,none⟩,⟨some 16,.assign (.tmp 17),none⟩]) (.cond (.tmp 16) (.reg [⟨some 5,.assign (.const (.string ⟨#[49]⟩)),none⟩]) (.seq (.reg [⟨some 19,.binOp .eql 3 (.tmp 11) (.const (.int .i64 3)) 3,none⟩,⟨some 18,.assign (.tmp 19),none⟩]) (.cond (.tmp 18) (.reg [⟨some 5,.assign (.const (.string ⟨#[48]⟩)),none⟩]) (.seq (.reg [⟨some 21,.binOp .eql 3 (.tmp 11) (.const (.int .i64 4)) 3,none⟩,⟨some 20,.assign (.tmp 21),none⟩]) (.cond (.tmp 20) (.reg [⟨some 22,.fieldAddr 24 (.tmp 2) 2,none⟩,⟨some 23,.load 22 (.tmp 22),none⟩,⟨some 24,.indexAddr 22 (.tmp 23) (.const (.int .i64 0)),none⟩,⟨some 25,.load 24 (.tmp 24),none⟩,⟨some 26,.call ⟨.value (.func 79),#[.tmp 25,.const (.int .i64 4)],#[24,3]⟩,none⟩,⟨some 27,.binOp .add 9 (.const (.string ⟨#[126]⟩)) (.tmp 26) 9,none⟩,⟨some 5,.assign (.tmp 27),none⟩]) (.seq (.reg [⟨some 29,.binOp .eql 3 (.tmp 11) (.const (.int .i64 8)) 3,none⟩,⟨some 28,.assign (.tmp 29),none⟩]) (.cond (.tmp 28) (.reg [⟨some 30,.fieldAddr 24 (.tmp 2) 2,none⟩,⟨some 31,.load 22 (.tmp 30),none⟩,⟨some 32,.indexAddr 22 (.tmp 31) (.const (.int .i64 0)),none⟩,⟨some 33,.load 24 (.tmp 32),none⟩,⟨some 34,.call ⟨.value (.func 79),#[.tmp 33,.const (.int .i64 4)],#[24,3]⟩,none⟩,⟨some 35,.binOp .add 9 (.const (.string ⟨#[91,93]⟩)) (.tmp 34) 9,none⟩,⟨some 5,.assign (.tmp 35),none⟩]) (.seq (.reg [⟨some 37,.binOp .eql 3 (.tmp 11) (.const (.int .i64 9)) 3,none⟩,⟨some 36,.assign (.tmp 37),none⟩]) (.cond (.tmp 36) (.reg [⟨some 38,.fieldAddr 24 (.tmp 2) 2,none⟩,⟨some 39,.load 22 (.tmp 38),none⟩,⟨some 40,.indexAddr 22 (.tmp 39) (.const (.int .i64 0)),none⟩,⟨some 41,.load 24 (.tmp 40),none⟩,⟨some 42,.call ⟨.value (.func 79),#[.tmp 41,.const (.int .i64 4)],#[24,3]⟩,none⟩,⟨some 43,.binOp .add 9 (.const (.string ⟨#[60,62]⟩)) (.tmp 42) 9,none⟩,⟨some 5,.assign (.tmp 43),none⟩]) (.seq (.reg [⟨some 45,.binOp .eql 3 (.tmp 11) (.const (.int .i64 5)) 3,none⟩,⟨some 44,.assign (.tmp 45),none⟩]) (.cond (.tmp 44) (.drawn 17 [⟨some 46,.fieldAddr 24 (.tmp 2) 2,none⟩,⟨some 47,.load 22 (.tmp 46),none⟩,⟨some 48,.indexAddr 22 (.tmp 47) (.const (.int .i64 0)),none⟩,⟨some 49,.load 24 (.tmp 48),none⟩,⟨some 50,.call ⟨.value (.func 79),#[.tmp 49,.const (.int .i64 3)],#[24,3]⟩,none⟩,⟨some 51,.binOp .add 9 (.tmp 50) (.const (.string ⟨#[32,38,32]⟩)) 9,none⟩,⟨some 52,.fieldAddr 24 (.tmp 2) 2,none⟩,⟨some 53,.load 22 (.tmp 52),none⟩,⟨some 54,.indexAddr 22 (.tmp 53) (.const (.int .i64 1)),none⟩,⟨some 55,.load 24 (.tmp 54),none⟩,⟨some 56,.call ⟨.value (.func 79),#[.tmp 55,.const (.int .i64 4)],#[24,3]⟩,none⟩,⟨some 57,.binOp .add 9 (.tmp 51) (.tmp 56) 9,none⟩,⟨some 5,.assign (.tmp 57),none⟩]) (.seq (.reg [⟨some 59,.binOp .eql 3 (.tmp 11) (.const (.int .i64 6)) 3,none⟩,⟨some 58,.assign (.tmp 59),none⟩]) (.cond (.tmp 58) (.drawn 19 [⟨some 60,.fieldAddr 24 (.tmp 2) 2,none⟩,⟨some 61,.load 22 (.tmp 60),none⟩,⟨some 62,.indexAddr 22 (.tmp 61) (.const (.int .i64 0)),none⟩,⟨some 63,.load 24 (.tmp 62),none⟩,⟨some 64,.call ⟨.value (.func 79),#[.tmp 63,.const (.int .i64 2)],#[24,3]⟩,none⟩,⟨some 65,.binOp .add 9 (.tmp 64) (.const (.string ⟨#[32,124,32]⟩)) 9,none⟩,⟨some 66,.fieldAddr 24 (.tmp 2) 2,none⟩,⟨some 67,.load 22 (.tmp 66),none⟩,⟨some 68,.indexAddr 22 (.tmp 67) (.const (.int .i64 1)),none⟩,⟨some 69,.load 24 (.tmp 68),none⟩,⟨some 70,.call ⟨.value (.func 79),#[.tmp 69,.const (.int .i64 3)],#[24,3]⟩,none⟩,⟨some 71,.binOp .add 9 (.tmp 65) (.tmp 70) 9,none⟩,⟨some 5,.assign (.tmp 71),none⟩]) (.seq (.reg [⟨some 73,.binOp .eql 3 (.tmp 11) (.const (.int .i64 7)) 3,none⟩,⟨some 72,.assign (.tmp 73),none⟩]) (.cond (.tmp 72) (.drawn 21 [⟨some 74,.fieldAddr 24 (.tmp 2) 2,none⟩,⟨some 75,.load 22 (.tmp 74),none⟩,⟨some 76,.indexAddr 22 (.tmp 75) (.const (.int .i64 0)),none⟩,⟨some 77,.load 24 (.tmp 76),none⟩,⟨some 78,.call ⟨.value (.func 79),#[.tmp 77,.const (.int .i64 2)],#[24,3]⟩,none⟩,⟨some 79,.binOp .add 9 (.tmp 78) (.const (.string ⟨#[32,45,62,32]⟩)) 9,none⟩,⟨some 80,.fieldAddr 24 (.tmp 2) 2,none⟩,⟨some 81,.load 22 (.tmp 80),none⟩,⟨some 82,.indexAddr 22 (.tmp 81) (.const (.int .i64 1)),none⟩,⟨some 83,.load 24 (.tmp 82),none⟩,⟨some 84,.call ⟨.value (.func 79),#[.tmp 83,.const (.int .i64 1)],#[24,3]⟩,none⟩,⟨some 85,.binOp .add 9 (.tmp 79) (.tmp 84) 9,none⟩,⟨some 5,.assign (.tmp 85),none⟩]) .skip)))))))))))))))))))) (.seq (.seq (.reg [⟨some 86,.move (.tmp 6),none⟩,⟨some 87,.move (.tmp 1),none⟩,⟨some 88,.binOp .lss 3 (.tmp 86) (.tmp 87) 3,none⟩]) (.cond (.tmp 88) (.seq (.reg [⟨some 89,.move (.tmp 5),none⟩,⟨some 90,.binOp .add 9 (.const (.string ⟨#[40]⟩)) (.tmp 89) 9,none⟩,⟨some 91,.binOp .add 9 (.tmp 90) (.const (.string ⟨#[41]⟩)) 9,none⟩,⟨some 4,.assign (.tmp 91),none⟩]) .ret) .skip)) (.seq (.reg [⟨some 92,.move (.tmp 5),none⟩,⟨some 4,.assign (.tmp 92),none⟩]) .ret)))))
@[simp] theorem x79_s {C e s K} : type_of% (@X_at C e s K _ _ x79.eq_1) := X_at x79.eq_1
def an79 : Ann := ⟨[(17, .mix 11), (19, .mix 11), (21, .mix 11)], [], []⟩
@[simp] theorem an79_a : an79.clsOf 17 = .mix 11 ∧ an79.clsOf 19 = .mix 11 ∧ an79.clsOf 21 = .mix 11 ∧ an79.frzOf 17 = [] ∧ an79.frzOf 19 = [] ∧ an79.frzOf 21 = [] := ⟨rfl, rfl, rfl, rfl, rfl, rfl⟩
theorem fi79 : FI Try.prog 79 (cxA an79) x79 [.tmp 4] Try.f79 := fiA Try.func79 mixed
def levelN (k : Int) : Int := if k = 7 then 1 else if k = 6 then 2 else if k = 5 then 3 else 4
theorem level_formula (k : Int) : CallOK Try.prog 105 [.int .i64 k] [] (.int .i64 (levelN k)) [] := by
 refine fi105.op ?_
 ((refine Sg.h ?_); try repeat' ((first | (with_reducible first | refine brA ?_ | refine brE fun _ => ?_ | (refine spl ⟨?_, ?_⟩ <;> intro _))) <;> (try simp -implicitDefEqProofs (disch := first | assumption | (try simp only [lens]); omega -splitDisjunctions))))
 all_goals simp_all [levelN]
def paren (s : ByteArray) (k least : Int) : ByteArray := if levelN k < least then (⟨#[40]⟩ : ByteArray) ++ s ++ (⟨#[41]⟩ : ByteArray) else s
mutual
def said : Fm → Int → ByteArray
 | .mk k nm l => fun least =>
  let a := ((saids l)[0]?).getD fun _ => ⟨#[]⟩
  let b := ((saids l)[1]?).getD fun _ => ⟨#[]⟩
  paren (if k = 1 then nm else if k = 2 then ⟨#[49]⟩ else if k = 3 then ⟨#[48]⟩ else if k = 4 then (⟨#[126]⟩ : ByteArray) ++ a 4 else if k = 8 then (⟨#[91, 93]⟩ : ByteArray) ++ a 4 else if k = 9 then (⟨#[60, 62]⟩ : ByteArray) ++ a 4
   else if k = 5 then a 3 ++ (⟨#[32, 38, 32]⟩ : ByteArray) ++ b 4 else if k = 6 then a 2 ++ (⟨#[32, 124, 32]⟩ : ByteArray) ++ b 3 else if k = 7 then a 2 ++ (⟨#[32, 45, 62, 32]⟩ : ByteArray) ++ b 1 else ⟨#[]⟩) k least
def saids : List Fm → List (Int → ByteArray)
 | [] => []
 | f :: r => said f :: saids r
end
theorem paren_size (s : ByteArray) (k least : Int) : (paren s k least).size ≤ s.size + 2 := by
 unfold paren; split
 ·simp only [ByteArray.size_append]; show 1 + s.size + 1 ≤ _; omega
 ·omega
theorem pre_len0 (k : Int) (nm : ByteArray) : (pre (.mk k nm [])).length = 1 := by rw [pre_eq]; simp [pres_nil]
theorem pre_len1 (k : Int) (nm : ByteArray) (a : Fm) : (pre (.mk k nm [a])).length = 1 + (pre a).length := by rw [pre_eq]; simp [pres_nil, pres_cons]; omega
theorem pre_len2 (k : Int) (nm : ByteArray) (a b : Fm) : (pre (.mk k nm [a, b])).length = 1 + (pre a).length + (pre b).length := by rw [pre_eq]; simp [pres_nil, pres_cons]; omega
theorem said_size (f : Fm) (h : OkF (fun n => isNameB n = true) f) : ∀ least, (said f least).size ≤ 10 * (pre f).length := by
 induction f using Fm.ind with
 | h f ih =>
  intro least
  rcases h.nine with ⟨nm, hn, rfl⟩ | ⟨nm, rfl⟩ | ⟨nm, rfl⟩ | ⟨nm, a, ha, rfl⟩ | ⟨nm, a, b, ha, hb, rfl⟩ | ⟨nm, a, b, ha, hb, rfl⟩ | ⟨nm, a, b, ha, hb, rfl⟩ | ⟨nm, a, ha, rfl⟩ | ⟨nm, a, ha, rfl⟩
  all_goals refine Nat.le_trans (paren_size _ _ _) ?_
  ·have : nm.size ≤ 8 := by simp [isNameB] at hn; omega
   simp [pre_len0]; omega
  ·simp [pre_len0]
  ·simp [pre_len0]
  ·have := ih a (by simp) ha 4
   simp [saids, pre_len1]; omega
  ·have := ih a (by simp) ha 3
   have := ih b (by simp) hb 4
   simp [saids, pre_len2]; omega
  ·have := ih a (by simp) ha 2
   have := ih b (by simp) hb 3
   simp [saids, pre_len2]; omega
  ·have := ih a (by simp) ha 2
   have := ih b (by simp) hb 1
   simp [saids, pre_len2]; omega
  ·have := ih a (by simp) ha 4
   simp [saids, pre_len1]; omega
  ·have := ih a (by simp) ha 4
   simp [saids, pre_len1]; omega
theorem said_formula (f : Fm) (hf : OkF (fun n => isNameB n = true) f) : (pre f).length ≤ 1000 → ∀ least : Int, CallOK Try.prog 79 [.agg (frm f), .int .i64 least] [] (.str (said f least)) [] := by
 induction f using Fm.ind with
 | h f ih =>
  intro hl least
  refine fi79.op ?_
  rcases hf.nine with ⟨nm, hn, rfl⟩ | ⟨nm, rfl⟩ | ⟨nm, rfl⟩ | ⟨nm, a, ha, rfl⟩ | ⟨nm, a, b, ha, hb, rfl⟩ | ⟨nm, a, b, ha, hb, rfl⟩ | ⟨nm, a, b, ha, hb, rfl⟩ | ⟨nm, a, ha, rfl⟩ | ⟨nm, a, ha, rfl⟩
  ·have hs : nm.size ≤ 8 := by simp [isNameB] at hn; omega
   ((refine Sg.h ?_); try repeat' ((first | (with_reducible first | refine brA ?_ | refine brE fun _ => ?_ | (refine spl ⟨?_, ?_⟩ <;> intro _)) | refine clo (level_formula _) ?_) <;> (try simp -implicitDefEqProofs (disch := first | assumption | (try simp only [lens]); omega -splitDisjunctions))))
   all_goals simp_all [said, paren]
   omega
  ·((refine Sg.h ?_); try repeat' ((first | (with_reducible first | refine brA ?_ | refine brE fun _ => ?_ | (refine spl ⟨?_, ?_⟩ <;> intro _)) | refine clo (level_formula _) ?_) <;> (try simp -implicitDefEqProofs (disch := first | assumption | (try simp only [lens]); omega -splitDisjunctions))))
   all_goals simp_all [said, paren]
   all_goals (intros; omega)
  ·((refine Sg.h ?_); try repeat' ((first | (with_reducible first | refine brA ?_ | refine brE fun _ => ?_ | (refine spl ⟨?_, ?_⟩ <;> intro _)) | refine clo (level_formula _) ?_) <;> (try simp -implicitDefEqProofs (disch := first | assumption | (try simp only [lens]); omega -splitDisjunctions))))
   all_goals simp_all [said, paren]
   all_goals (intros; omega)
  ·rw [pre_len1] at hl
   have s1 := said_size a ha 4
   ((refine Sg.h ?_); try repeat' ((first | (with_reducible first | refine brA ?_ | refine brE fun _ => ?_ | (refine spl ⟨?_, ?_⟩ <;> intro _)) | refine clo (level_formula _) ?_ | refine clo (ih a (by simp) ha (by omega) _) ?_) <;> (try simp -implicitDefEqProofs (disch := first | assumption | (try simp only [lens]); omega -splitDisjunctions))))
   all_goals simp_all [said, saids, paren]
   all_goals (intros; omega)
  ·rw [pre_len2] at hl
   have s1 := said_size a ha 3
   have s2 := said_size b hb 4
   ((refine Sg.h ?_); try repeat' ((first | (with_reducible first | refine brA ?_ | refine brE fun _ => ?_ | (refine spl ⟨?_, ?_⟩ <;> intro _)) | refine clo (level_formula _) ?_ | refine clo (ih a (by simp) ha (by omega) _) ?_ | refine clo (ih b (by simp) hb (by omega) _) ?_) <;> (try simp -implicitDefEqProofs (disch := first | assumption | (try simp only [lens]); omega -splitDisjunctions))))
   all_goals simp_all [said, saids, paren]
   all_goals (intros; omega)
  ·rw [pre_len2] at hl
   have s1 := said_size a ha 2
   have s2 := said_size b hb 3
   ((refine Sg.h ?_); try repeat' ((first | (with_reducible first | refine brA ?_ | refine brE fun _ => ?_ | (refine spl ⟨?_, ?_⟩ <;> intro _)) | refine clo (level_formula _) ?_ | refine clo (ih a (by simp) ha (by omega) _) ?_ | refine clo (ih b (by simp) hb (by omega) _) ?_) <;> (try simp -implicitDefEqProofs (disch := first | assumption | (try simp only [lens]); omega -splitDisjunctions))))
   all_goals simp_all [said, saids, paren]
   all_goals (intros; omega)
  ·rw [pre_len2] at hl
   have s1 := said_size a ha 2
   have s2 := said_size b hb 1
   ((refine Sg.h ?_); try repeat' ((first | (with_reducible first | refine brA ?_ | refine brE fun _ => ?_ | (refine spl ⟨?_, ?_⟩ <;> intro _)) | refine clo (level_formula _) ?_ | refine clo (ih a (by simp) ha (by omega) _) ?_ | refine clo (ih b (by simp) hb (by omega) _) ?_) <;> (try simp -implicitDefEqProofs (disch := first | assumption | (try simp only [lens]); omega -splitDisjunctions))))
   all_goals simp_all [said, saids, paren]
   all_goals (intros; omega)
  ·rw [pre_len1] at hl
   have s1 := said_size a ha 4
   ((refine Sg.h ?_); try repeat' ((first | (with_reducible first | refine brA ?_ | refine brE fun _ => ?_ | (refine spl ⟨?_, ?_⟩ <;> intro _)) | refine clo (level_formula _) ?_ | refine clo (ih a (by simp) ha (by omega) _) ?_) <;> (try simp -implicitDefEqProofs (disch := first | assumption | (try simp only [lens]); omega -splitDisjunctions))))
   all_goals simp_all [said, saids, paren]
   all_goals (intros; omega)
  ·rw [pre_len1] at hl
   have s1 := said_size a ha 4
   ((refine Sg.h ?_); try repeat' ((first | (with_reducible first | refine brA ?_ | refine brE fun _ => ?_ | (refine spl ⟨?_, ?_⟩ <;> intro _)) | refine clo (level_formula _) ?_ | refine clo (ih a (by simp) ha (by omega) _) ?_) <;> (try simp -implicitDefEqProofs (disch := first | assumption | (try simp only [lens]); omega -splitDisjunctions))))
   all_goals simp_all [said, saids, paren]
   all_goals (intros; omega)
def x52 : XC := .seq (.reg [⟨some 1,.box 24 (.tmp 0),none⟩,⟨some 2,.assign (.const (.string ⟨#[]⟩)),none⟩]) (.seq (.reg [⟨some 3,.load 24 (.tmp 1),none⟩,⟨some 4,.call ⟨.value (.func 79),#[.tmp 3,.const (.int .i64 1)],#[24,3]⟩,none⟩,⟨some 2,.assign (.tmp 4),none⟩]) .ret)
@[simp] theorem x52_s {C e s K} : type_of% (@X_at C e s K _ _ x52.eq_1) := X_at x52.eq_1
def an52 : Ann := ⟨[], [], []⟩
theorem fi52 : FI Try.prog 52 (cxA an52) x52 [.tmp 2] Try.f52 := fiA Try.func52 mixed
theorem Said_formula (f : Fm) (hf : OkF (fun n => isNameB n = true) f) (hl : (pre f).length ≤ 1000) : CallOK Try.prog 52 [.agg (frm f)] [] (.str (said f 1)) [] := by
 refine fi52.op ?_
 ((refine Sg.h ?_); try repeat' ((first | (with_reducible first | refine brA ?_ | refine brE fun _ => ?_ | (refine spl ⟨?_, ?_⟩ <;> intro _)) | refine clo (said_formula f hf hl _) ?_) <;> (try simp -implicitDefEqProofs (disch := first | assumption | (try simp only [lens]); omega -splitDisjunctions))))
end Go.Proofs.Ytcllmionhlmjfaa
