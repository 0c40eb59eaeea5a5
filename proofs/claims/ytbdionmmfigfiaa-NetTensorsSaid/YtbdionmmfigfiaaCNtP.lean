import Derived.Test.YtbdionmmfigfiaaCTPa
import Derived.Test.YtbdionmmfigfiaaCNtD
set_option linter.unusedVariables false
set_option linter.unusedSimpArgs false
set_option maxRecDepth 100000
set_option maxHeartbeats 4000000
namespace Go.Proofs.Ytbdionmmfigfiaa
open Go Go.Pv
mutual
def vaL : Ln → Int → Bool
 | .mk _ _ _ l,d => decide (3000 < d) || decide (3000 < l.length) || vaAny l (d + 1)
def vaAny : List Ln → Int → Bool
 | [],_ => false
 | x :: r,d => vaL x d || vaAny r d
end
def vaLs (l : List Ln) (d : Int) : Bool := decide (3000 < d) || decide (3000 < l.length) || vaAny l (d + 1)
theorem vaL_eq (x : Ln) (d : Int) : vaL x d = vaLs x.kids d := by cases x with | mk a b c l => rw [vaL]; rfl
def x9_L0 : XC := .seq (.seq (.reg [⟨some 13,.move (.tmp 5),none⟩,⟨some 14,.move (.tmp 0),none⟩,⟨some 15,.call ⟨.builtin .len,#[.tmp 14],#[22]⟩,none⟩,⟨some 16,.binOp .lss 3 (.tmp 13) (.tmp 15) 3,none⟩]) (.cond (.tmp 16) .skip (.exit 0))) (.seq (.block 1 (.seq (.reg [⟨some 19,.move (.tmp 0),none⟩,⟨some 20,.move (.tmp 5),none⟩,⟨some 21,.indexAddr 22 (.tmp 19) (.tmp 20),none⟩,⟨some 22,.fieldAddr 24 (.tmp 21) 3,none⟩,⟨some 23,.load 22 (.tmp 22),none⟩,⟨some 24,.move (.tmp 1),none⟩,⟨some 25,.binOp .add 3 (.tmp 24) (.const (.int .i64 1)) 3,none⟩,⟨some 26,.call ⟨.value (.func 9),#[.tmp 23,.tmp 25],#[22,3]⟩,none⟩]) (.cond (.tmp 26) (.seq (.reg [⟨some 4,.assign (.const (.bool true)),none⟩]) .ret) .skip))) (.reg [⟨some 17,.move (.tmp 5),none⟩,⟨some 18,.binOp .add 3 (.tmp 17) (.const (.int .i64 1)) 3,none⟩,⟨some 5,.assign (.tmp 18),none⟩]))
def x9 : XC := .seq (.reg [⟨some 4,.assign (.const (.bool false)),none⟩]) (.seq (.seq (.reg [⟨some 6,.move (.tmp 1),none⟩,⟨some 7,.binOp .gtr 3 (.tmp 6) (.const (.int .i64 3000)) 3,none⟩,⟨some 8,.move (.tmp 7),none⟩,⟨some 9,.move (.tmp 0),some (some 8,false)⟩,⟨some 10,.call ⟨.builtin .len,#[.tmp 9],#[22]⟩,some (some 8,false)⟩,⟨some 11,.binOp .gtr 3 (.tmp 10) (.const (.int .i64 3000)) 3,some (some 8,false)⟩,⟨some 12,.pick (.tmp 8) (.const (.bool true)) (.tmp 11),none⟩]) (.cond (.tmp 12) (.seq (.reg [⟨some 4,.assign (.const (.bool true)),none⟩]) .ret) .skip)) (.seq (.seq (.reg [⟨some 5,.assign (.const (.int .i64 0)),none⟩]) (.bloop 0 x9_L0)) (.seq (.reg [⟨some 4,.assign (.const (.bool false)),none⟩]) .ret)))
@[simp] theorem x9_s {C e s K} : type_of% (@X_at C e s K _ _ x9_L0.eq_1) ∧ type_of% (@X_at C e s K _ _ x9.eq_1) := ⟨X_at x9_L0.eq_1,X_at x9.eq_1⟩
def an9 : Ann := ⟨[],[(0,[],[0,1,5],[4])],[]⟩
@[simp] theorem an9_a : an9.loopOf 0 = ([],[0,1,5],[4]) := rfl
theorem fi9 : FI Try.prog 9 (cxA an9) x9 [.tmp 4] Try.f9 := fiA Try.func9 mixed
theorem VastLinear_step (l : List Ln) (ih : ∀ x ∈ l,∀ d : Int,0 ≤ d → d ≤ 3001 → CallOK Try.prog 9 [.list (x.kids.map lnr),.int .i64 d] [] (.bool (vaL x d)) []) (d : Int) (hd : 0 ≤ d) (hd2 : d ≤ 3001) :
  CallOK Try.prog 9 [.list (l.map lnr),.int .i64 d] [] (.bool (vaLs l d)) [] := by
 refine fi9.op ?_
 unfold vaLs
 by_cases h1 : 3000 < d
 ·rw [decide_eq_true h1,Bool.true_or,Bool.true_or]
  (refine Sg.h ?_;try repeat' ((with_reducible first|refine brA ?_|refine brE fun _=>?_|refine spl ⟨?_,?_⟩<;>intro _)<;> ((try simp -implicitDefEqProofs [h1]); (try simp -implicitDefEqProofs(disch:=first|assumption|(try simp only[lens]);omega -splitDisjunctions) [h1]))))
 rw [decide_eq_false h1,Bool.false_or]
 by_cases h2 : 3000 < l.length
 ·rw [decide_eq_true h2,Bool.true_or]
  have h2' : (3000 : Int) < (l.length : Int) := by omega
  (refine Sg.h ?_;try repeat' ((with_reducible first|refine brA ?_|refine brE fun _=>?_|refine spl ⟨?_,?_⟩<;>intro _)<;> ((try simp -implicitDefEqProofs [h1,h2']); (try simp -implicitDefEqProofs(disch:=first|assumption|(try simp only[lens]);omega -splitDisjunctions) [h1,h2']))))
 rw [decide_eq_false h2,Bool.false_or]
 have h2' : ¬ (3000 : Int) < (l.length : Int) := by omega
 obtain ⟨R,hR⟩ : ∃ R,vaAny l (d + 1) = R := ⟨_,rfl⟩
 rw [hR]
 (refine Sg.h ?_;try repeat' ((with_reducible first|refine brA ?_|refine brE fun _=>?_|refine spl ⟨?_,?_⟩<;>intro _)<;> ((try simp -implicitDefEqProofs [h1,h2']); (try simp -implicitDefEqProofs(disch:=first|assumption|(try simp only[lens]);omega -splitDisjunctions) [h1,h2']))))
 refine W_of fun Q hQ => ?_
 have main : ∀ n i,i + n = l.length → vaAny (l.drop i) (d + 1) = R → Q [(0,.list (l.map lnr)),(1,.int .i64 d),(5,.int .i64 (i : Int))] [] := by
  intro n
  induction n with
  | zero =>
   intro i hi hR
   rw [List.drop_of_length_le (by omega),vaAny] at hR
   subst hR
   apply hQ
   clear hQ ih
   (refine Sg.h ?_;try repeat' ((with_reducible first|refine brA ?_|refine brE fun _=>?_|refine spl ⟨?_,?_⟩<;>intro _)<;> ((try simp -implicitDefEqProofs); (try simp -implicitDefEqProofs(disch:=first|assumption|(try simp only[lens]);omega -splitDisjunctions)))))
  | succ n ihn =>
   intro i hi hR
   have hil : i < l.length := by omega
   have ihn := ihn (i + 1) (by omega)
   rw [List.drop_eq_getElem_cons hil,vaAny] at hR
   have hc := ih l[i] (List.getElem_mem ..) (d + 1) (by omega) (by omega)
   generalize hx : l[i] = x at *
   cases hb : vaL x (d + 1) with
   | true =>
    rw [hb,Bool.true_or] at hR
    subst hR
    rw [hb] at hc
    clear ihn ih
    apply hQ
    clear hQ
    (refine Sg.h ?_;try repeat' ((first | (with_reducible first|refine brA ?_|refine brE fun _=>?_|refine spl ⟨?_,?_⟩<;>intro _) | refine clo hc ?_) <;> ((try simp -implicitDefEqProofs [hil,hx]); (try simp -implicitDefEqProofs(disch:=first|assumption|(try simp only[lens]);omega -splitDisjunctions) [hil,hx]))))
   | false =>
    rw [hb,Bool.false_or] at hR
    rw [hb] at hc
    have ihn := ihn hR
    clear ih
    apply hQ
    clear hQ
    (refine Sg.h ?_;try repeat' ((first | (with_reducible first|refine brA ?_|refine brE fun _=>?_|refine spl ⟨?_,?_⟩<;>intro _) | refine clo hc ?_) <;> ((try simp -implicitDefEqProofs [hil,hx]); (try simp -implicitDefEqProofs(disch:=first|assumption|(try simp only[lens]);omega -splitDisjunctions) [hil,hx]))))
    all_goals first | exact ihn | (refine at2 ihn ?_ ?_ <;> simp; done) | (exfalso; first | omega | (simp_all; done) | (simp_all; omega))
 all_goals first | exact main _ 0 (Nat.zero_add _) hR | (refine at2 main _ 0 (Nat.zero_add _) hR ?_ ?_ <;> simp; done) | (exfalso; first | omega | (simp_all; done) | (simp_all; omega))
theorem VastLinear_ref (l : List Ln) (d : Int) (hd : 0 ≤ d) (hd2 : d ≤ 3001) : CallOK Try.prog 9 [.list (l.map lnr),.int .i64 d] [] (.bool (vaLs l d)) [] := by
 have all : ∀ x : Ln,∀ d : Int,0 ≤ d → d ≤ 3001 → CallOK Try.prog 9 [.list (x.kids.map lnr),.int .i64 d] [] (.bool (vaL x d)) [] := by
  intro x
  induction x using Ln.ind with
  | h p ih =>
   intro d hd hd2
   rw [vaL_eq]
   exact VastLinear_step p.kids ih d hd hd2
 exact VastLinear_step l (fun x _ => all x) d hd hd2
def x11_T1 : XC := .seq (.reg [⟨some 38,.move (.tmp 5),none⟩,⟨some 4,.assign (.tmp 38),none⟩]) .ret
def x11_L0 : XC := .seq (.seq (.reg [⟨some 7,.move (.tmp 6),none⟩,⟨some 8,.move (.tmp 0),none⟩,⟨some 9,.call ⟨.builtin .len,#[.tmp 8],#[22]⟩,none⟩,⟨some 10,.binOp .lss 3 (.tmp 7) (.tmp 9) 3,none⟩,⟨some 11,.move (.tmp 10),none⟩,⟨some 12,.move (.tmp 5),some (some 11,true)⟩,⟨some 13,.call ⟨.builtin .len,#[.tmp 12],#[22]⟩,some (some 11,true)⟩,⟨some 14,.move (.tmp 1),some (some 11,true)⟩,⟨some 15,.binOp .leq 3 (.tmp 13) (.tmp 14) 3,some (some 11,true)⟩,⟨some 16,.pick (.tmp 11) (.tmp 15) (.const (.bool false)),none⟩]) (.cond (.tmp 16) .skip (.exit 0))) (.seq (.block 1 (.seq (.reg [⟨some 19,.move (.tmp 5),none⟩,⟨some 20,.move (.tmp 0),none⟩,⟨some 21,.move (.tmp 6),none⟩,⟨some 22,.indexAddr 22 (.tmp 20) (.tmp 21),none⟩,⟨some 23,.load 24 (.tmp 22),none⟩,⟨some 24,.buildSlice 22 1 #[(0,.tmp 23)],none⟩,⟨some 25,.call ⟨.builtin .append,#[.tmp 19,.tmp 24],#[22,22]⟩,none⟩,⟨some 5,.assign (.tmp 25),none⟩]) (.reg [⟨some 26,.move (.tmp 5),none⟩,⟨some 27,.move (.tmp 0),none⟩,⟨some 28,.move (.tmp 6),none⟩,⟨some 29,.indexAddr 22 (.tmp 27) (.tmp 28),none⟩,⟨some 30,.fieldAddr 24 (.tmp 29) 3,none⟩,⟨some 31,.load 22 (.tmp 30),none⟩,⟨some 32,.move (.tmp 1),none⟩,⟨some 33,.move (.tmp 5),none⟩,⟨some 34,.call ⟨.builtin .len,#[.tmp 33],#[22]⟩,none⟩,⟨some 35,.binOp .sub 3 (.tmp 32) (.tmp 34) 3,none⟩,⟨some 36,.call ⟨.value (.func 11),#[.tmp 31,.tmp 35],#[22,3]⟩,none⟩,⟨some 37,.call ⟨.builtin .append,#[.tmp 26,.tmp 36],#[22,22]⟩,none⟩,⟨some 5,.assign (.tmp 37),none⟩]))) (.reg [⟨some 17,.move (.tmp 6),none⟩,⟨some 18,.binOp .add 3 (.tmp 17) (.const (.int .i64 1)) 3,none⟩,⟨some 6,.assign (.tmp 18),none⟩]))
def x11 : XC := .seq (.reg [⟨some 4,.assign (.const (.slice none 0 0)),none⟩]) (.seq (.reg [⟨some 5,.assign (.const (.slice none 0 0)),none⟩]) (.seq (.seq (.reg [⟨some 6,.assign (.const (.int .i64 0)),none⟩]) (.bloop 0 x11_L0)) (x11_T1)))
@[simp] theorem x11_s {C e s K} : type_of% (@X_at C e s K _ _ x11_T1.eq_1) ∧ type_of% (@X_at C e s K _ _ x11_L0.eq_1) ∧ type_of% (@X_at C e s K _ _ x11.eq_1) := ⟨X_at x11_T1.eq_1,X_at x11_L0.eq_1,X_at x11.eq_1⟩
def an11 : Ann := ⟨[],[(0,[(5,none,4)],[0,1,5,6],[5])],[]⟩
@[simp] theorem an11_a : an11.loopOf 0 = ([(5,none,4)],[0,1,5,6],[5]) := rfl
theorem fi11 : FI Try.prog 11 (cxA an11) x11 [.tmp 4] Try.f11 := fiA Try.func11 mixed
theorem Linears_step (l : List Ln) (ih : ∀ x ∈ l,∀ m : Int,-1 ≤ m → m ≤ 1000 → CallOK Try.prog 11 [.list (x.kids.map lnr),.int .i64 m] [] (.list (((ndLs x.kids).take (m + 1).toNat).map lnr)) []) (m : Int) (hm : -1 ≤ m) (hm2 : m ≤ 1000) :
  CallOK Try.prog 11 [.list (l.map lnr),.int .i64 m] [] (.list (((ndLs l).take (m + 1).toNat).map lnr)) [] := by
 obtain ⟨R,hR⟩ : ∃ R,(ndLs l).take (m + 1).toNat = R := ⟨_,rfl⟩
 rw [hR]
 refine fi11.os ?_
 (refine Sg.h ?_;try repeat' ((with_reducible first|refine brA ?_|refine brE fun _=>?_|refine spl ⟨?_,?_⟩<;>intro _)<;> ((try simp -implicitDefEqProofs); (try simp -implicitDefEqProofs(disch:=first|assumption|(try simp only[lens]);omega -splitDisjunctions)))))
 refine W_of fun Q hQ => ?_
 have main : ∀ n i (out : List Ln),i + n = l.length → out.length ≤ (m + 1).toNat → out ++ (ndLs (l.drop i)).take ((m + 1).toNat - out.length) = R → Q [(0,.list (l.map lnr)),(1,.int .i64 m),(5,.sl 0 0 out.length),(6,.int .i64 (i : Int))] [.rows 4 (out.map lnr)] := by
  intro n
  induction n with
  | zero =>
   intro i out hi ho hR
   rw [List.drop_of_length_le (by omega),ndLs_nil,List.take_nil,List.append_nil] at hR
   subst hR
   apply hQ
   clear hQ ih
   (refine Sg.h ?_;try repeat' ((with_reducible first|refine brA ?_|refine brE fun _=>?_|refine spl ⟨?_,?_⟩<;>intro _)<;> ((try simp -implicitDefEqProofs); (try simp -implicitDefEqProofs(disch:=first|assumption|(try simp only[lens]);omega -splitDisjunctions)))))
  | succ n ihn =>
   intro i out hi ho hR
   have hil : i < l.length := by omega
   by_cases h1 : (out.length : Int) ≤ m
   ·rw [List.drop_eq_getElem_cons hil,ndLs_cons] at hR
    have hc := ih l[i] (List.getElem_mem ..) (m - (out.length + 1 : Nat)) (by omega) (by omega)
    obtain ⟨K,hK⟩ : ∃ K,(ndLs l[i].kids).take (m - (out.length + 1 : Nat) + 1).toNat = K := ⟨_,rfl⟩
    have hKl : K.length ≤ (m + 1).toNat - (out.length + 1) := by rw [← hK,List.length_take]; omega
    have ihn := ihn (i + 1) (out ++ l[i] :: K) (by omega) (by rw [List.length_append,List.length_cons]; omega) (by
     rw [← hR,List.append_assoc]
     congr 1
     rw [List.length_append,List.length_cons,show (m + 1).toNat - out.length = ((m + 1).toNat - (out.length + 1)) + 1 by omega,List.take_succ_cons,List.cons_append,List.take_append]
     congr 1
     rw [show (m - (out.length + 1 : Nat) + 1).toNat = (m + 1).toNat - (out.length + 1) by omega] at hK
     rw [hK]
     congr 1
     rw [show (m + 1).toNat - (out.length + (K.length + 1)) = (m + 1).toNat - (out.length + 1) - K.length by omega]
     by_cases h2 : (ndLs l[i].kids).length ≤ (m + 1).toNat - (out.length + 1)
     ·rw [List.take_of_length_le h2] at hK
      rw [hK]
     ·have : K.length = (m + 1).toNat - (out.length + 1) := by rw [← hK,List.length_take]; omega
      rw [this,Nat.sub_self,show (m + 1).toNat - (out.length + 1) - (ndLs l[i].kids).length = 0 by omega])
    rw [hK] at hc
    generalize hx : l[i] = x at *
    clear ih hR hK
    apply hQ
    clear hQ
    have htk : List.take (out.length + 1) (out.map lnr ++ [lnr x]) = out.map lnr ++ [lnr x] := List.take_of_length_le (by simp)
    have e1 : (out ++ x :: K).length = out.length + 1 + K.length := by simp; omega
    rw [e1] at ihn
    (refine Sg.h ?_;try repeat' ((first | (with_reducible first|refine brA ?_|refine brE fun _=>?_|refine spl ⟨?_,?_⟩<;>intro _) | refine clo hc ?_) <;> ((try simp -implicitDefEqProofs [hil,hx,h1]); (try simp -implicitDefEqProofs(disch:=first|assumption|(try simp only[lens]);omega -splitDisjunctions) [hil,hx,h1]))))
    all_goals first | exact ihn | (refine at2 ihn ?_ ?_ <;> simp [htk]; done) | (exfalso; first | omega | (simp_all; done) | (simp_all; omega))
   ·have : (m + 1).toNat - out.length = 0 := by omega
    rw [this,List.take_zero,List.append_nil] at hR
    subst hR
    clear ihn ih
    apply hQ
    clear hQ
    (refine Sg.h ?_;try repeat' ((with_reducible first|refine brA ?_|refine brE fun _=>?_|refine spl ⟨?_,?_⟩<;>intro _)<;> ((try simp -implicitDefEqProofs [hil,h1]); (try simp -implicitDefEqProofs(disch:=first|assumption|(try simp only[lens]);omega -splitDisjunctions) [hil,h1]))))
 all_goals first | exact main _ 0 [] (Nat.zero_add _) (by simp) (by simpa using hR) | (refine at2 main _ 0 [] (Nat.zero_add _) (by simp) (by simpa using hR) ?_ ?_ <;> simp; done) | (exfalso; first | omega | (simp_all; done) | (simp_all; omega))
theorem Linears_ref (l : List Ln) (m : Int) (hm : -1 ≤ m) (hm2 : m ≤ 1000) : CallOK Try.prog 11 [.list (l.map lnr),.int .i64 m] [] (.list (((ndLs l).take (m + 1).toNat).map lnr)) [] := by
 have all : ∀ x : Ln,∀ m : Int,-1 ≤ m → m ≤ 1000 → CallOK Try.prog 11 [.list (x.kids.map lnr),.int .i64 m] [] (.list (((ndLs x.kids).take (m + 1).toNat).map lnr)) [] := by
  intro x
  induction x using Ln.ind with
  | h p ih => exact fun m hm hm2 => Linears_step p.kids ih m hm hm2
 exact Linears_step l (fun x _ => all x) m hm hm2
def lvR (l : List Ln) : List Ln := ((ndLs l).take 301).filter fun x => decide (x.k = 1)
def x12_T1 : XC := .seq (.reg [⟨some 27,.move (.tmp 4),none⟩,⟨some 2,.assign (.tmp 27),none⟩]) .ret
def x12_L0 : XC := .seq (.seq (.reg [⟨some 8,.move (.tmp 5),none⟩,⟨some 9,.move (.tmp 3),none⟩,⟨some 10,.call ⟨.builtin .len,#[.tmp 9],#[22]⟩,none⟩,⟨some 11,.binOp .lss 3 (.tmp 8) (.tmp 10) 3,none⟩]) (.cond (.tmp 11) .skip (.exit 0))) (.seq (.block 1 (.seq (.reg [⟨some 14,.move (.tmp 3),none⟩,⟨some 15,.move (.tmp 5),none⟩,⟨some 16,.indexAddr 22 (.tmp 14) (.tmp 15),none⟩,⟨some 17,.fieldAddr 24 (.tmp 16) 0,none⟩,⟨some 18,.load 3 (.tmp 17),none⟩,⟨some 19,.binOp .eql 3 (.tmp 18) (.const (.int .i64 1)) 3,none⟩]) (.cond (.tmp 19) (.reg [⟨some 20,.move (.tmp 4),none⟩,⟨some 21,.move (.tmp 3),none⟩,⟨some 22,.move (.tmp 5),none⟩,⟨some 23,.indexAddr 22 (.tmp 21) (.tmp 22),none⟩,⟨some 24,.load 24 (.tmp 23),none⟩,⟨some 25,.buildSlice 22 1 #[(0,.tmp 24)],none⟩,⟨some 26,.call ⟨.builtin .append,#[.tmp 20,.tmp 25],#[22,22]⟩,none⟩,⟨some 4,.assign (.tmp 26),none⟩]) .skip))) (.reg [⟨some 12,.move (.tmp 5),none⟩,⟨some 13,.binOp .add 3 (.tmp 12) (.const (.int .i64 1)) 3,none⟩,⟨some 5,.assign (.tmp 13),none⟩]))
def x12 : XC := .seq (.reg [⟨some 2,.assign (.const (.slice none 0 0)),none⟩]) (.seq (.reg [⟨some 6,.move (.tmp 0),none⟩,⟨some 7,.call ⟨.value (.func 11),#[.tmp 6,.const (.int .i64 300)],#[22,3]⟩,none⟩,⟨some 3,.assign (.tmp 7),none⟩]) (.seq (.reg [⟨some 4,.assign (.const (.slice none 0 0)),none⟩]) (.seq (.seq (.reg [⟨some 5,.assign (.const (.int .i64 0)),none⟩]) (.bloop 0 x12_L0)) (x12_T1))))
@[simp] theorem x12_s {C e s K} : type_of% (@X_at C e s K _ _ x12_T1.eq_1) ∧ type_of% (@X_at C e s K _ _ x12_L0.eq_1) ∧ type_of% (@X_at C e s K _ _ x12.eq_1) := ⟨X_at x12_T1.eq_1,X_at x12_L0.eq_1,X_at x12.eq_1⟩
def an12 : Ann := ⟨[],[(0,[(4,none,4)],[3,4,5],[4])],[]⟩
@[simp] theorem an12_a : an12.loopOf 0 = ([(4,none,4)],[3,4,5],[4]) := rfl
theorem fi12 : FI Try.prog 12 (cxA an12) x12 [.tmp 2] Try.f12 := fiA Try.func12 mixed
theorem Leaves_ref (l : List Ln) : CallOK Try.prog 12 [.list (l.map lnr)] [] (.list ((lvR l).map lnr)) [] := by
 have hw := Linears_ref l 300 (by decide) (by decide)
 rw [show ((300 : Int) + 1).toNat = 301 from rfl] at hw
 unfold lvR
 have hlen : ((ndLs l).take 301).length ≤ 301 := by rw [List.length_take]; omega
 generalize (ndLs l).take 301 = L at *
 obtain ⟨R,hR⟩ : ∃ R,L.filter (fun x => decide (x.k = 1)) = R := ⟨_,rfl⟩
 rw [hR]
 refine fi12.os ?_
 (refine Sg.h ?_;try repeat' ((first | (with_reducible first|refine brA ?_|refine brE fun _=>?_|refine spl ⟨?_,?_⟩<;>intro _) | refine clo hw ?_) <;> ((try simp -implicitDefEqProofs); (try simp -implicitDefEqProofs(disch:=first|assumption|(try simp only[lens]);omega -splitDisjunctions)))))
 refine W_of fun Q hQ => ?_
 have main : ∀ n i (out : List Ln),i + n = L.length → out.length ≤ i → out ++ (L.drop i).filter (fun x => decide (x.k = 1)) = R → Q [(3,.list (L.map lnr)),(4,.sl 0 0 out.length),(5,.int .i64 (i : Int))] [.rows 4 (out.map lnr)] := by
  intro n
  induction n with
  | zero =>
   intro i out hi ho hR
   rw [List.drop_of_length_le (by omega),List.filter_nil,List.append_nil] at hR
   subst hR
   apply hQ
   clear hQ
   (refine Sg.h ?_;try repeat' ((with_reducible first|refine brA ?_|refine brE fun _=>?_|refine spl ⟨?_,?_⟩<;>intro _)<;> ((try simp -implicitDefEqProofs); (try simp -implicitDefEqProofs(disch:=first|assumption|(try simp only[lens]);omega -splitDisjunctions)))))
  | succ n ih =>
   intro i out hi ho hR
   have hil : i < L.length := by omega
   rw [List.drop_eq_getElem_cons hil,List.filter_cons] at hR
   generalize hx : L[i] = x at *
   by_cases h1 : x.k = 1
   ·rw [if_pos (by simpa using h1)] at hR
    have ih := ih (i + 1) (out ++ [x]) (by omega) (by simp; omega) (by rw [List.append_assoc]; exact hR)
    clear hR
    apply hQ
    clear hQ
    (refine Sg.h ?_;try repeat' ((with_reducible first|refine brA ?_|refine brE fun _=>?_|refine spl ⟨?_,?_⟩<;>intro _)<;> ((try simp -implicitDefEqProofs [hil,hx,h1]); (try simp -implicitDefEqProofs(disch:=first|assumption|(try simp only[lens]);omega -splitDisjunctions) [hil,hx,h1]))))
    all_goals first | exact ih | (refine at2 ih ?_ ?_ <;> simp; done) | (exfalso; first | omega | (simp_all; done) | (simp_all; omega))
   ·rw [if_neg (by simpa using h1)] at hR
    have ih := ih (i + 1) out (by omega) (by omega) hR
    clear hR
    apply hQ
    clear hQ
    (refine Sg.h ?_;try repeat' ((with_reducible first|refine brA ?_|refine brE fun _=>?_|refine spl ⟨?_,?_⟩<;>intro _)<;> ((try simp -implicitDefEqProofs [hil,hx,h1]); (try simp -implicitDefEqProofs(disch:=first|assumption|(try simp only[lens]);omega -splitDisjunctions) [hil,hx,h1]))))
    all_goals first | exact ih | (refine at2 ih ?_ ?_ <;> simp; done) | (exfalso; first | omega | (simp_all; done) | (simp_all; omega))
 all_goals first | exact main _ 0 [] (Nat.zero_add _) (by simp) (by simpa using hR) | (refine at2 main _ 0 [] (Nat.zero_add _) (by simp) (by simpa using hR) ?_ ?_ <;> simp; done) | (exfalso; first | omega | (simp_all; done) | (simp_all; omega))
def dlT : Lt → Lt
 | .atom nm no => .atom nm (!no)
 | .op p a b => .op (!p) (dlT a) (dlT b)
end Go.Proofs.Ytbdionmmfigfiaa
