import Derived.Test.YtcllmionhlmjfaaGPvSort
import Derived.Sort.Walk0
import Derived.Test.YtcllmionhlmjfaaGPvPan
import Derived.Test.YtcllmionhlmjfaaGPvQg
set_option linter.unusedVariables false
set_option linter.unusedSimpArgs false
set_option maxRecDepth 100000
set_option maxHeartbeats 4000000
namespace Go.Proofs.Ytcllmionhlmjfaa
open Go Go.Pv
def x45 : XC := .seq (.reg [⟨some 4,.alloc 29,none⟩]) (.seq (.reg [⟨some 5,.move (.tmp 0),none⟩,⟨some 6,.move (.tmp 1),none⟩,⟨some 7,.build 29 #[(0,.tmp 5),(1,.tmp 6)],none⟩,⟨none,.store 29 (.tmp 4) (.tmp 7),none⟩]) .ret)
@[simp] theorem x45_s {C e s K} : type_of% (@X_at C e s K _ _ x45.eq_1) := X_at x45.eq_1
def an45 : Ann := ⟨[],[],[]⟩
theorem fi45 : FI Try.prog 45 (cxA an45) x45 [.cell 4 29] Try.f45 := fiA Try.func45 mixed
theorem F_ref (a b : Int) : CallOK Try.prog 45 [.int .i64 a,.int .i64 b] [] (.agg [.int .i64 a,.int .i64 b]) [] := by
 refine fi45.op ?_
 (refine Sg.h ?_;try repeat' ((with_reducible first|refine brA ?_|refine brE fun _=>?_|refine spl ⟨?_,?_⟩<;>intro _)<;> (try simp -implicitDefEqProofs(disch:=first|assumption|(try simp only[lens]);omega -splitDisjunctions))))
def x44_T1 : XC := .seq (.reg [⟨some 20,.move (.tmp 0),none⟩,⟨some 21,.call ⟨.builtin .len,#[.tmp 20],#[9]⟩,none⟩,⟨some 22,.binOp .gtr 3 (.tmp 21) (.const (.int .i64 0)) 3,none⟩,⟨some 23,.move (.tmp 22),none⟩,⟨some 24,.move (.tmp 0),some (some 23,true)⟩,⟨some 25,.call ⟨.builtin .len,#[.tmp 24],#[9]⟩,some (some 23,true)⟩,⟨some 26,.binOp .lss 3 (.tmp 25) (.const (.int .i64 9)) 3,some (some 23,true)⟩,⟨some 27,.pick (.tmp 23) (.tmp 26) (.const (.bool false)),none⟩,⟨some 2,.assign (.tmp 27),none⟩]) .ret
def x44_L0 : XC := .seq (.seq (.reg [⟨some 4,.move (.tmp 3),none⟩,⟨some 5,.move (.tmp 0),none⟩,⟨some 6,.call ⟨.builtin .len,#[.tmp 5],#[9]⟩,none⟩,⟨some 7,.binOp .lss 3 (.tmp 4) (.tmp 6) 3,none⟩]) (.cond (.tmp 7) .skip (.exit 0))) (.seq (.block 1 (.seq (.reg [⟨some 10,.move (.tmp 0),none⟩,⟨some 11,.move (.tmp 3),none⟩,⟨some 12,.index 9 (.tmp 10) (.tmp 11),none⟩,⟨some 13,.binOp .lss 5 (.tmp 12) (.const (.int .u8 97)) 5,none⟩,⟨some 14,.move (.tmp 13),none⟩,⟨some 15,.move (.tmp 0),some (some 14,false)⟩,⟨some 16,.move (.tmp 3),some (some 14,false)⟩,⟨some 17,.index 9 (.tmp 15) (.tmp 16),some (some 14,false)⟩,⟨some 18,.binOp .gtr 5 (.tmp 17) (.const (.int .u8 122)) 5,some (some 14,false)⟩,⟨some 19,.pick (.tmp 14) (.const (.bool true)) (.tmp 18),none⟩]) (.cond (.tmp 19) (.seq (.reg [⟨some 2,.assign (.const (.bool false)),none⟩]) .ret) .skip))) (.reg [⟨some 8,.move (.tmp 3),none⟩,⟨some 9,.binOp .add 3 (.tmp 8) (.const (.int .i64 1)) 3,none⟩,⟨some 3,.assign (.tmp 9),none⟩]))
def x44 : XC := .seq (.reg [⟨some 2,.assign (.const (.bool false)),none⟩]) (.seq (.seq (.reg [⟨some 3,.assign (.const (.int .i64 0)),none⟩]) (.bloop 0 x44_L0)) (x44_T1))
@[simp] theorem x44_s {C e s K} : type_of% (@X_at C e s K _ _ x44_T1.eq_1) ∧ type_of% (@X_at C e s K _ _ x44_L0.eq_1) ∧ type_of% (@X_at C e s K _ _ x44.eq_1) := ⟨X_at x44_T1.eq_1,X_at x44_L0.eq_1,X_at x44.eq_1⟩
def an44 : Ann := ⟨[],[(0,[],[0,3],[0,2])],[]⟩
@[simp] theorem an44_a : an44.loopOf 0 = ([],[0,3],[0,2]) := rfl
theorem fi44 : FI Try.prog 44 (cxA an44) x44 [.tmp 2] Try.f44 := fiA Try.func44 mixed
theorem IsName_ref (t : ByteArray) : CallOK Try.prog 44 [.str t] [] (.bool (isNameB t)) [] := by
 refine fi44.op ?_
 (refine Sg.h ?_;try repeat' ((with_reducible first|refine brA ?_|refine brE fun _=>?_|refine spl ⟨?_,?_⟩<;>intro _)<;> (try simp -implicitDefEqProofs(disch:=first|assumption|(try simp only[lens]);omega -splitDisjunctions))))
 refine W_of fun Q hQ => ?_
 have main : ∀ n i,i + n = t.size → (∀ j (h : j < t.size),j < i → letterB t[j] = true) → Q [(0,.str t),(3,.int .i64 (i : Int))] [] := by
  intro n
  induction n with
  | zero =>
   intro i hi hl
   have hall : t.data.toList.all letterB = true := by
    rw [all_letter]; intro j hj; exact hl j hj (by omega)
   apply hQ
   (refine Sg.h ?_;try repeat' ((with_reducible first|refine brA ?_|refine brE fun _=>?_|refine spl ⟨?_,?_⟩<;>intro _)<;> (try simp -implicitDefEqProofs(disch:=first|assumption|(try simp only[lens]);omega -splitDisjunctions))))
   all_goals (rw [Bool.eq_iff_iff]; simp [isNameB,hall]; omega)
  | succ n ih =>
   intro i hi hl
   have hlt : i < t.size := by omega
   by_cases hb : letterB t[i] = true
   ·have hb' := hb
    simp only [letterB,decide_eq_true_eq] at hb'
    have ih := ih (i + 1) (by omega) (fun j hj hji => by
     by_cases e : j = i
     ·subst e; exact hb
     ·exact hl j hj (by omega))
    apply hQ
    (refine Sg.h ?_;try repeat' ((with_reducible first|refine brA ?_|refine brE fun _=>?_|refine spl ⟨?_,?_⟩<;>intro _)<;> (try simp -implicitDefEqProofs(disch:=first|assumption|(try simp only[lens]);omega -splitDisjunctions))))
    all_goals simpa using ih
   ·have hno : isNameB t = false := by
     have h2 : ¬ t.data.toList.all letterB = true := by
      rw [all_letter]; intro h3; exact hb (h3 i hlt)
     simp [isNameB,h2]
    simp only [letterB,decide_eq_true_eq] at hb
    apply hQ
    (refine Sg.h ?_;try repeat' ((with_reducible first|refine brA ?_|refine brE fun _=>?_|refine spl ⟨?_,?_⟩<;>intro _)<;> (try simp -implicitDefEqProofs(disch:=first|assumption|(try simp only[lens]);omega -splitDisjunctions))))
    all_goals first | (exfalso; have := hb (by omega); omega; done) | simp_all
 refine at2 (main _ 0 (Nat.zero_add _) (fun j h hj => by omega)) ?_ ?_ <;> simp
end Go.Proofs.Ytcllmionhlmjfaa
namespace Go.Proofs.Ytcllmionhlmjfaa
open Go Go.Pv
def Pl (f : Fm) : Prop := Td f ∧ ∀ x ∈ pre f,x.kind ≤ 7
theorem Pl.kid {f g : Fm} (h : Pl f) (hg : g ∈ f.kids) : Pl g := ⟨h.1.kid hg,fun x hx => h.2 x (by rw [pre_eq]; exact List.mem_cons_of_mem _ (pres_mem hx _ hg))⟩
section
variable {h : ByteArray → Bool} {nm : ByteArray} {l : List Fm} {a b : Fm}
end
end Go.Proofs.Ytcllmionhlmjfaa
namespace Go.Proofs.Ytcllmionhlmjfaa
open Go Go.Pv
def rankF (w : ByteArray) : Int := if w = ⟨#[45,62]⟩ then 1 else if w = ⟨#[124]⟩ then 2 else if w = ⟨#[38]⟩ then 3 else 0
def x83 : XC := .seq (.reg [⟨some 2,.assign (.const (.int .i64 0)),none⟩]) (.seq (.seq (.reg [⟨some 3,.move (.tmp 0),none⟩]) (.block 0 (.seq (.reg [⟨some 5,.binOp .eql 9 (.tmp 3) (.const (.string ⟨#[45,62]⟩)) 9,none⟩,⟨some 4,.assign (.tmp 5),none⟩]) (.cond (.tmp 4) (.seq (.reg [⟨some 2,.assign (.const (.int .i64 1)),none⟩]) .ret) (.seq (.reg [⟨some 7,.binOp .eql 9 (.tmp 3) (.const (.string ⟨#[124]⟩)) 9,none⟩,⟨some 6,.assign (.tmp 7),none⟩]) (.cond (.tmp 6) (.seq (.reg [⟨some 2,.assign (.const (.int .i64 2)),none⟩]) .ret) (.seq (.reg [⟨some 9,.binOp .eql 9 (.tmp 3) (.const (.string ⟨#[38]⟩)) 9,none⟩,⟨some 8,.assign (.tmp 9),none⟩]) (.cond (.tmp 8) (.seq (.reg [⟨some 2,.assign (.const (.int .i64 3)),none⟩]) .ret) .skip)))))))) (.seq (.reg [⟨some 2,.assign (.const (.int .i64 0)),none⟩]) .ret))
@[simp] theorem x83_s {C e s K} : type_of% (@X_at C e s K _ _ x83.eq_1) := X_at x83.eq_1
def an83 : Ann := ⟨[],[],[]⟩
theorem fi83 : FI Try.prog 83 (cxA an83) x83 [.tmp 2] Try.f83 := fiA Try.func83 mixed
theorem rank_ref (w : ByteArray) : CallOK Try.prog 83 [.str w] [] (.int .i64 (rankF w)) [] := by
 refine fi83.op ?_
 unfold rankF
 by_cases h1 : w = ⟨#[45,62]⟩
 ·rw [if_pos h1]
  (refine Sg.h ?_;try repeat' ((with_reducible first|refine brA ?_|refine brE fun _=>?_|refine spl ⟨?_,?_⟩<;>intro _)<;> ((try simp -implicitDefEqProofs [h1]); (try simp -implicitDefEqProofs(disch:=first|assumption|(try simp only[lens]);omega -splitDisjunctions) [h1]))))
 ·rw [if_neg h1]
  by_cases h2 : w = ⟨#[124]⟩
  ·rw [if_pos h2]
   subst h2
   (refine Sg.h ?_;try repeat' ((with_reducible first|refine brA ?_|refine brE fun _=>?_|refine spl ⟨?_,?_⟩<;>intro _)<;> ((try simp -implicitDefEqProofs); (try simp -implicitDefEqProofs(disch:=first|assumption|(try simp only[lens]);omega -splitDisjunctions)))))
  ·rw [if_neg h2]
   by_cases h3 : w = ⟨#[38]⟩
   ·rw [if_pos h3]
    subst h3
    (refine Sg.h ?_;try repeat' ((with_reducible first|refine brA ?_|refine brE fun _=>?_|refine spl ⟨?_,?_⟩<;>intro _)<;> ((try simp -implicitDefEqProofs); (try simp -implicitDefEqProofs(disch:=first|assumption|(try simp only[lens]);omega -splitDisjunctions)))))
   ·rw [if_neg h3]
    (refine Sg.h ?_;try repeat' ((with_reducible first|refine brA ?_|refine brE fun _=>?_|refine spl ⟨?_,?_⟩<;>intro _)<;> ((try simp -implicitDefEqProofs [h1,h2,h3]); (try simp -implicitDefEqProofs(disch:=first|assumption|(try simp only[lens]);omega -splitDisjunctions) [h1,h2,h3]))))
def signs : List ByteArray := [⟨#[45,62]⟩,⟨#[91,93]⟩,⟨#[60,62]⟩,⟨#[126]⟩,⟨#[38]⟩,⟨#[124]⟩,⟨#[40]⟩,⟨#[41]⟩,⟨#[49]⟩,⟨#[48]⟩]
end Go.Proofs.Ytcllmionhlmjfaa
