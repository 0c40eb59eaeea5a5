import Derived.Test.YtbdionmmfigfiaaDQRF
set_option linter.unusedVariables false
set_option linter.unusedSimpArgs false
set_option maxRecDepth 100000
set_option maxHeartbeats 4000000
namespace Go.Proofs.Ytbdionmmfigfiaa
open Go Go.Pv
mutual
def vaL : Ln → Int → Bool
 | .mk _ _ _ l,d => decide (3000 < d) || decide (3000 < l.length) || vaAny l (d + 1)
def vaAny : List Ln → Int → Bool
 | [],_ => false
 | x :: r,d => vaL x d || vaAny r d
end
def vaLs (l : List Ln) (d : Int) : Bool := decide (3000 < d) || decide (3000 < l.length) || vaAny l (d + 1)
theorem vaL_eq (x : Ln) (d : Int) : vaL x d = vaLs x.kids d := by cases x with | mk a b c l => rw [vaL]; rfl
def x9_L0 : XC := .seq (.seq (.reg [⟨some 13,.move (.tmp 5),none⟩,⟨some 14,.move (.tmp 0),none⟩,⟨some 15,.call ⟨.builtin .len,#[.tmp 14],#[22]⟩,none⟩,⟨some 16,.binOp .lss 3 (.tmp 13) (.tmp 15) 3,none⟩]) (.cond (.tmp 16) .skip (.exit 0))) (.seq (.block 1 (.seq (.reg [⟨some 19,.move (.tmp 0),none⟩,⟨some 20,.move (.tmp 5),none⟩,⟨some 21,.indexAddr 22 (.tmp 19) (.tmp 20),none⟩,⟨some 22,.fieldAddr 24 (.tmp 21) 3,none⟩,⟨some 23,.load 22 (.tmp 22),none⟩,⟨some 24,.move (.tmp 1),none⟩,⟨some 25,.binOp .add 3 (.tmp 24) (.const (.int .i64 1)) 3,none⟩,⟨some 26,.call ⟨.value (.func 9),#[.tmp 23,.tmp 25],#[22,3]⟩,none⟩]) (.cond (.tmp 26) (.seq (.reg [⟨some 4,.assign (.const (.bool true)),none⟩]) .ret) .skip))) (.reg [⟨some 17,.move (.tmp 5),none⟩,⟨some 18,.binOp .add 3 (.tmp 17) (.const (.int .i64 1)) 3,none⟩,⟨some 5,.assign (.tmp 18),none⟩]))
def x9 : XC := .seq (.reg [⟨some 4,.assign (.const (.bool false)),none⟩]) (.seq (.seq (.reg [⟨some 6,.move (.tmp 1),none⟩,⟨some 7,.binOp .gtr 3 (.tmp 6) (.const (.int .i64 3000)) 3,none⟩,⟨some 8,.move (.tmp 7),none⟩,⟨some 9,.move (.tmp 0),some (some 8,false)⟩,⟨some 10,.call ⟨.builtin .len,#[.tmp 9],#[22]⟩,some (some 8,false)⟩,⟨some 11,.binOp .gtr 3 (.tmp 10) (.const (.int .i64 3000)) 3,some (some 8,false)⟩,⟨some 12,.pick (.tmp 8) (.const (.bool true)) (.tmp 11),none⟩]) (.cond (.tmp 12) (.seq (.reg [⟨some 4,.assign (.const (.bool true)),none⟩]) .ret) .skip)) (.seq (.seq (.reg [⟨some 5,.assign (.const (.int .i64 0)),none⟩]) (.bloop 0 x9_L0)) (.seq (.reg [⟨some 4,.assign (.const (.bool false)),none⟩]) .ret)))
@[simp] theorem x9_s {C e s K} : type_of% (@X_at C e s K _ _ x9_L0.eq_1) ∧ type_of% (@X_at C e s K _ _ x9.eq_1) := ⟨X_at x9_L0.eq_1,X_at x9.eq_1⟩
def an9 : Ann := ⟨[],[(0,[],[0,1,5],[4])],[]⟩
@[simp] theorem an9_a : an9.loopOf 0 = ([],[0,1,5],[4]) := rfl
theorem fi9 : FI Try.prog 9 (cxA an9) x9 [.tmp 4] Try.f9 := fiA Try.func9 mixed
theorem VastLinear_step (l : List Ln) (ih : ∀ x ∈ l,∀ d : Int,0 ≤ d → d ≤ 3001 → CallOK Try.prog 9 [.list (x.kids.map lnr),.int .i64 d] [] (.bool (vaL x d)) []) (d : Int) (hd : 0 ≤ d) (hd2 : d ≤ 3001) :
  CallOK Try.prog 9 [.list (l.map lnr),.int .i64 d] [] (.bool (vaLs l d)) [] := by
 refine fi9.op ?_
 unfold vaLs
 by_cases h1 : 3000 < d
 ·rw [decide_eq_true h1,Bool.true_or,Bool.true_or]
  (refine Sg.h ?_;try repeat' ((with_reducible first|refine brA ?_|refine brE fun _=>?_|refine spl ⟨?_,?_⟩<;>intro _)<;> ((try simp -implicitDefEqProofs [h1]); (try simp -implicitDefEqProofs(disch:=first|assumption|(try simp only[lens]);omega -splitDisjunctions) [h1]))))
 rw [decide_eq_false h1,Bool.false_or]
 by_cases h2 : 3000 < l.length
 ·rw [decide_eq_true h2,Bool.true_or]
  have h2' : (3000 : Int) < (l.length : Int) := by omega
  (refine Sg.h ?_;try repeat' ((with_reducible first|refine brA ?_|refine brE fun _=>?_|refine spl ⟨?_,?_⟩<;>intro _)<;> ((try simp -implicitDefEqProofs [h1,h2']); (try simp -implicitDefEqProofs(disch:=first|assumption|(try simp only[lens]);omega -splitDisjunctions) [h1,h2']))))
 rw [decide_eq_false h2,Bool.false_or]
 have h2' : ¬ (3000 : Int) < (l.length : Int) := by omega
 obtain ⟨R,hR⟩ : ∃ R,vaAny l (d + 1) = R := ⟨_,rfl⟩
 rw [hR]
 (refine Sg.h ?_;try repeat' ((with_reducible first|refine brA ?_|refine brE fun _=>?_|refine spl ⟨?_,?_⟩<;>intro _)<;> ((try simp -implicitDefEqProofs [h1,h2']); (try simp -implicitDefEqProofs(disch:=first|assumption|(try simp only[lens]);omega -splitDisjunctions) [h1,h2']))))
 refine W_of fun Q hQ => ?_
 have main : ∀ n i,i + n = l.length → vaAny (l.drop i) (d + 1) = R → Q [(0,.list (l.map lnr)),(1,.int .i64 d),(5,.int .i64 (i : Int))] [] := by
  intro n
  induction n with
  | zero =>
   intro i hi hR
   rw [List.drop_of_length_le (by omega),vaAny] at hR
   subst hR
   apply hQ
   clear hQ ih
   (refine Sg.h ?_;try repeat' ((with_reducible first|refine brA ?_|refine brE fun _=>?_|refine spl ⟨?_,?_⟩<;>intro _)<;> ((try simp -implicitDefEqProofs); (try simp -implicitDefEqProofs(disch:=first|assumption|(try simp only[lens]);omega -splitDisjunctions)))))
  | succ n ihn =>
   intro i hi hR
   have hil : i < l.length := by omega
   have ihn := ihn (i + 1) (by omega)
   rw [List.drop_eq_getElem_cons hil,vaAny] at hR
   have hc := ih l[i] (List.getElem_mem ..) (d + 1) (by omega) (by omega)
   generalize hx : l[i] = x at *
   cases hb : vaL x (d + 1) with
   | true =>
    rw [hb,Bool.true_or] at hR
    subst hR
    rw [hb] at hc
    clear ihn ih
    apply hQ
    clear hQ
    (refine Sg.h ?_;try repeat' ((first | (with_reducible first|refine brA ?_|refine brE fun _=>?_|refine spl ⟨?_,?_⟩<;>intro _) | refine clo hc ?_) <;> ((try simp -implicitDefEqProofs [hil,hx]); (try simp -implicitDefEqProofs(disch:=first|assumption|(try simp only[lens]);omega -splitDisjunctions) [hil,hx]))))
   | false =>
    rw [hb,Bool.false_or] at hR
    rw [hb] at hc
    have ihn := ihn hR
    clear ih
    apply hQ
    clear hQ
    (refine Sg.h ?_;try repeat' ((first | (with_reducible first|refine brA ?_|refine brE fun _=>?_|refine spl ⟨?_,?_⟩<;>intro _) | refine clo hc ?_) <;> ((try simp -implicitDefEqProofs [hil,hx]); (try simp -implicitDefEqProofs(disch:=first|assumption|(try simp only[lens]);omega -splitDisjunctions) [hil,hx]))))
    all_goals first | exact ihn | (refine at2 ihn ?_ ?_ <;> simp; done) | (exfalso; first | omega | (simp_all; done) | (simp_all; omega))
 all_goals first | exact main _ 0 (Nat.zero_add _) hR | (refine at2 main _ 0 (Nat.zero_add _) hR ?_ ?_ <;> simp; done) | (exfalso; first | omega | (simp_all; done) | (simp_all; omega))
theorem VastLinear_ref (l : List Ln) (d : Int) (hd : 0 ≤ d) (hd2 : d ≤ 3001) : CallOK Try.prog 9 [.list (l.map lnr),.int .i64 d] [] (.bool (vaLs l d)) [] := by
 have all : ∀ x : Ln,∀ d : Int,0 ≤ d → d ≤ 3001 → CallOK Try.prog 9 [.list (x.kids.map lnr),.int .i64 d] [] (.bool (vaL x d)) [] := by
  intro x
  induction x using Ln.ind with
  | h p ih =>
   intro d hd hd2
   rw [vaL_eq]
   exact VastLinear_step p.kids ih d hd hd2
 exact VastLinear_step l (fun x _ => all x) d hd hd2
def x11_T1 : XC := .seq (.reg [⟨some 38,.move (.tmp 5),none⟩,⟨some 4,.assign (.tmp 38),none⟩]) .ret
def x11_L0 : XC := .seq (.seq (.reg [⟨some 7,.move (.tmp 6),none⟩,⟨some 8,.move (.tmp 0),none⟩,⟨some 9,.call ⟨.builtin .len,#[.tmp 8],#[22]⟩,none⟩,⟨some 10,.binOp .lss 3 (.tmp 7) (.tmp 9) 3,none⟩,⟨some 11,.move (.tmp 10),none⟩,⟨some 12,.move (.tmp 5),some (some 11,true)⟩,⟨some 13,.call ⟨.builtin .len,#[.tmp 12],#[22]⟩,some (some 11,true)⟩,⟨some 14,.move (.tmp 1),some (some 11,true)⟩,⟨some 15,.binOp .leq 3 (.tmp 13) (.tmp 14) 3,some (some 11,true)⟩,⟨some 16,.pick (.tmp 11) (.tmp 15) (.const (.bool false)),none⟩]) (.cond (.tmp 16) .skip (.exit 0))) (.seq (.block 1 (.seq (.reg [⟨some 19,.move (.tmp 5),none⟩,⟨some 20,.move (.tmp 0),none⟩,⟨some 21,.move (.tmp 6),none⟩,⟨some 22,.indexAddr 22 (.tmp 20) (.tmp 21),none⟩,⟨some 23,.load 24 (.tmp 22),none⟩,⟨some 24,.buildSlice 22 1 #[(0,.tmp 23)],none⟩,⟨some 25,.call ⟨.builtin .append,#[.tmp 19,.tmp 24],#[22,22]⟩,none⟩,⟨some 5,.assign (.tmp 25),none⟩]) (.reg [⟨some 26,.move (.tmp 5),none⟩,⟨some 27,.move (.tmp 0),none⟩,⟨some 28,.move (.tmp 6),none⟩,⟨some 29,.indexAddr 22 (.tmp 27) (.tmp 28),none⟩,⟨some 30,.fieldAddr 24 (.tmp 29) 3,none⟩,⟨some 31,.load 22 (.tmp 30),none⟩,⟨some 32,.move (.tmp 1),none⟩,⟨some 33,.move (.tmp 5),none⟩,⟨some 34,.call ⟨.builtin .len,#[.tmp 33],#[22]⟩,none⟩,⟨some 35,.binOp .sub 3 (.tmp 32) (.tmp 34) 3,none⟩,⟨some 36,.call ⟨.value (.func 11),#[.tmp 31,.tmp 35],#[22,3]⟩,none⟩,⟨some 37,.call ⟨.builtin .append,#[.tmp 26,.tmp 36],#[22,22]⟩,none⟩,⟨some 5,.assign (.tmp 37),none⟩]))) (.reg [⟨some 17,.move (.tmp 6),none⟩,⟨some 18,.binOp .add 3 (.tmp 17) (.const (.int .i64 1)) 3,none⟩,⟨some 6,.assign (.tmp 18),none⟩]))
def x11 : XC := .seq (.reg [⟨some 4,.assign (.const (.slice none 0 0)),none⟩]) (.seq (.reg [⟨some 5,.assign (.const (.slice none 0 0)),none⟩]) (.seq (.seq (.reg [⟨some 6,.assign (.const (.int .i64 0)),none⟩]) (.bloop 0 x11_L0)) (x11_T1)))
@[simp] theorem x11_s {C e s K} : type_of% (@X_at C e s K _ _ x11_T1.eq_1) ∧ type_of% (@X_at C e s K _ _ x11_L0.eq_1) ∧ type_of% (@X_at C e s K _ _ x11.eq_1) := ⟨X_at x11_T1.eq_1,X_at x11_L0.eq_1,X_at x11.eq_1⟩
def an11 : Ann := ⟨[],[(0,[(5,none,4)],[0,1,5,6],[5])],[]⟩
@[simp] theorem an11_a : an11.loopOf 0 = ([(5,none,4)],[0,1,5,6],[5]) := rfl
theorem fi11 : FI Try.prog 11 (cxA an11) x11 [.tmp 4] Try.f11 := fiA Try.func11 mixed
theorem Linears_step (l : List Ln) (ih : ∀ x ∈ l,∀ m : Int,-1 ≤ m → m ≤ 1000 → CallOK Try.prog 11 [.list (x.kids.map lnr),.int .i64 m] [] (.list (((ndLs x.kids).take (m + 1).toNat).map lnr)) []) (m : Int) (hm : -1 ≤ m) (hm2 : m ≤ 1000) :
  CallOK Try.prog 11 [.list (l.map lnr),.int .i64 m] [] (.list (((ndLs l).take (m + 1).toNat).map lnr)) [] := by
 obtain ⟨R,hR⟩ : ∃ R,(ndLs l).take (m + 1).toNat = R := ⟨_,rfl⟩
 rw [hR]
 refine fi11.os ?_
 (refine Sg.h ?_;try repeat' ((with_reducible first|refine brA ?_|refine brE fun _=>?_|refine spl ⟨?_,?_⟩<;>intro _)<;> ((try simp -implicitDefEqProofs); (try simp -implicitDefEqProofs(disch:=first|assumption|(try simp only[lens]);omega -splitDisjunctions)))))
 refine W_of fun Q hQ => ?_
 have main : ∀ n i (out : List Ln),i + n = l.length → out.length ≤ (m + 1).toNat → out ++ (ndLs (l.drop i)).take ((m + 1).toNat - out.length) = R → Q [(0,.list (l.map lnr)),(1,.int .i64 m),(5,.sl 0 0 out.length),(6,.int .i64 (i : Int))] [.rows 4 (out.map lnr)] := by
  intro n
  induction n with
  | zero =>
   intro i out hi ho hR
   rw [List.drop_of_length_le (by omega),ndLs_nil,List.take_nil,List.append_nil] at hR
   subst hR
   apply hQ
   clear hQ ih
   (refine Sg.h ?_;try repeat' ((with_reducible first|refine brA ?_|refine brE fun _=>?_|refine spl ⟨?_,?_⟩<;>intro _)<;> ((try simp -implicitDefEqProofs); (try simp -implicitDefEqProofs(disch:=first|assumption|(try simp only[lens]);omega -splitDisjunctions)))))
  | succ n ihn =>
   intro i out hi ho hR
   have hil : i < l.length := by omega
   by_cases h1 : (out.length : Int) ≤ m
   ·rw [List.drop_eq_getElem_cons hil,ndLs_cons] at hR
    have hc := ih l[i] (List.getElem_mem ..) (m - (out.length + 1 : Nat)) (by omega) (by omega)
    obtain ⟨K,hK⟩ : ∃ K,(ndLs l[i].kids).take (m - (out.length + 1 : Nat) + 1).toNat = K := ⟨_,rfl⟩
    have hKl : K.length ≤ (m + 1).toNat - (out.length + 1) := by rw [← hK,List.length_take]; omega
    have ihn := ihn (i + 1) (out ++ l[i] :: K) (by omega) (by rw [List.length_append,List.length_cons]; omega) (by
     rw [← hR,List.append_assoc]
     congr 1
     rw [List.length_append,List.length_cons,show (m + 1).toNat - out.length = ((m + 1).toNat - (out.length + 1)) + 1 by omega,List.take_succ_cons,List.cons_append,List.take_append]
     congr 1
     rw [show (m - (out.length + 1 : Nat) + 1).toNat = (m + 1).toNat - (out.length + 1) by omega] at hK
     rw [hK]
     congr 1
     rw [show (m + 1).toNat - (out.length + (K.length + 1)) = (m + 1).toNat - (out.length + 1) - K.length by omega]
     by_cases h2 : (ndLs l[i].kids).length ≤ (m + 1).toNat - (out.length + 1)
     ·rw [List.take_of_length_le h2] at hK
      rw [hK]
     ·have : K.length = (m + 1).toNat - (out.length + 1) := by rw [← hK,List.length_take]; omega
      rw [this,Nat.sub_self,show (m + 1).toNat - (out.length + 1) - (ndLs l[i].kids).length = 0 by omega])
    rw [hK] at hc
    generalize hx : l[i] = x at *
    clear ih hR hK
    apply hQ
    clear hQ
    have htk : List.take (out.length + 1) (out.map lnr ++ [lnr x]) = out.map lnr ++ [lnr x] := List.take_of_length_le (by simp)
    have e1 : (out ++ x :: K).length = out.length + 1 + K.length := by simp; omega
    rw [e1] at ihn
    (refine Sg.h ?_;try repeat' ((first | (with_reducible first|refine brA ?_|refine brE fun _=>?_|refine spl ⟨?_,?_⟩<;>intro _) | refine clo hc ?_) <;> ((try simp -implicitDefEqProofs [hil,hx,h1]); (try simp -implicitDefEqProofs(disch:=first|assumption|(try simp only[lens]);omega -splitDisjunctions) [hil,hx,h1]))))
    all_goals first | exact ihn | (refine at2 ihn ?_ ?_ <;> simp [htk]; done) | (exfalso; first | omega | (simp_all; done) | (simp_all; omega))
   ·have : (m + 1).toNat - out.length = 0 := by omega
    rw [this,List.take_zero,List.append_nil] at hR
    subst hR
    clear ihn ih
    apply hQ
    clear hQ
    (refine Sg.h ?_;try repeat' ((with_reducible first|refine brA ?_|refine brE fun _=>?_|refine spl ⟨?_,?_⟩<;>intro _)<;> ((try simp -implicitDefEqProofs [hil,h1]); (try simp -implicitDefEqProofs(disch:=first|assumption|(try simp only[lens]);omega -splitDisjunctions) [hil,h1]))))
 all_goals first | exact main _ 0 [] (Nat.zero_add _) (by simp) (by simpa using hR) | (refine at2 main _ 0 [] (Nat.zero_add _) (by simp) (by simpa using hR) ?_ ?_ <;> simp; done) | (exfalso; first | omega | (simp_all; done) | (simp_all; omega))
theorem Linears_ref (l : List Ln) (m : Int) (hm : -1 ≤ m) (hm2 : m ≤ 1000) : CallOK Try.prog 11 [.list (l.map lnr),.int .i64 m] [] (.list (((ndLs l).take (m + 1).toNat).map lnr)) [] := by
 have all : ∀ x : Ln,∀ m : Int,-1 ≤ m → m ≤ 1000 → CallOK Try.prog 11 [.list (x.kids.map lnr),.int .i64 m] [] (.list (((ndLs x.kids).take (m + 1).toNat).map lnr)) [] := by
  intro x
  induction x using Ln.ind with
  | h p ih => exact fun m hm hm2 => Linears_step p.kids ih m hm hm2
 exact Linears_step l (fun x _ => all x) m hm hm2
theorem lfL_take : ∀ (L : List Ln) (i n : Nat),i ≤ 200 → 201 ≤ i + n → lfL (L.take n) i = lfL L i
 | [],i,n,_,_ => by rw [List.take_nil]
 | x :: r,i,n,h1,h2 => by
  obtain ⟨n,rfl⟩ : ∃ m,n = m + 1 := ⟨n - 1,by omega⟩
  rw [List.take_succ_cons,lfL,lfL]
  split
  ·rfl
  ·rw [lfL_take r (i + 1) n (by omega) (by omega)]
def x10_T1 : XC := .seq (.reg [⟨some 87,.build 29 #[],none⟩,⟨none,.store 29 (.tmp 2) (.tmp 87),none⟩]) .ret
def x10_L0 : XC := .seq (.seq (.reg [⟨some 17,.move (.tmp 4),none⟩,⟨some 18,.move (.tmp 3),none⟩,⟨some 19,.call ⟨.builtin .len,#[.tmp 18],#[22]⟩,none⟩,⟨some 20,.binOp .lss 3 (.tmp 17) (.tmp 19) 3,none⟩]) (.cond (.tmp 20) .skip (.exit 0))) (.seq (.block 1 (.seq (.reg [⟨some 23,.move (.tmp 3),none⟩,⟨some 24,.move (.tmp 4),none⟩,⟨some 25,.indexAddr 22 (.tmp 23) (.tmp 24),none⟩,⟨some 26,.load 24 (.tmp 25),none⟩,⟨some 5,.alloc 24,none⟩,⟨none,.store 24 (.tmp 5) (.tmp 26),none⟩]) (.seq (.seq (.reg [⟨some 27,.move (.tmp 4),none⟩,⟨some 28,.binOp .eql 3 (.tmp 27) (.const (.int .i64 200)) 3,none⟩]) (.cond (.tmp 28) (.seq (.reg [⟨some 29,.call ⟨.value (.func 17),#[.const (.int .i64 2),.const (.int .i64 0)],#[3,3]⟩,none⟩,⟨none,.store 29 (.tmp 2) (.tmp 29),none⟩]) .ret) .skip)) (.seq (.seq (.reg [⟨some 30,.fieldAddr 24 (.tmp 5) 0,none⟩,⟨some 31,.load 3 (.tmp 30),none⟩,⟨some 32,.binOp .lss 3 (.tmp 31) (.const (.int .i64 1)) 3,none⟩,⟨some 33,.move (.tmp 32),none⟩,⟨some 34,.fieldAddr 24 (.tmp 5) 0,some (some 33,false)⟩,⟨some 35,.load 3 (.tmp 34),some (some 33,false)⟩,⟨some 36,.binOp .gtr 3 (.tmp 35) (.const (.int .i64 3)) 3,some (some 33,false)⟩,⟨some 37,.pick (.tmp 33) (.const (.bool true)) (.tmp 36),none⟩]) (.cond (.tmp 37) (.seq (.reg [⟨some 38,.move (.tmp 4),none⟩,⟨some 39,.call ⟨.value (.func 17),#[.const (.int .i64 4),.tmp 38],#[3,3]⟩,none⟩,⟨none,.store 29 (.tmp 2) (.tmp 39),none⟩]) .ret) .skip)) (.seq (.seq (.reg [⟨some 40,.fieldAddr 24 (.tmp 5) 0,none⟩,⟨some 41,.load 3 (.tmp 40),none⟩,⟨some 42,.binOp .eql 3 (.tmp 41) (.const (.int .i64 1)) 3,none⟩,⟨some 43,.move (.tmp 42),none⟩,⟨some 44,.fieldAddr 24 (.tmp 5) 3,some (some 43,true)⟩,⟨some 45,.load 22 (.tmp 44),some (some 43,true)⟩,⟨some 46,.call ⟨.builtin .len,#[.tmp 45],#[22]⟩,some (some 43,true)⟩,⟨some 47,.binOp .neq 3 (.tmp 46) (.const (.int .i64 0)) 3,some (some 43,true)⟩,⟨some 48,.pick (.tmp 43) (.tmp 47) (.const (.bool false)),none⟩,⟨some 49,.move (.tmp 48),none⟩,⟨some 50,.fieldAddr 24 (.tmp 5) 0,some (some 49,false)⟩,⟨some 51,.load 3 (.tmp 50),some (some 49,false)⟩,⟨some 52,.binOp .neq 3 (.tmp 51) (.const (.int .i64 1)) 3,some (some 49,false)⟩,⟨some 53,.move (.tmp 52),some (some 49,false)⟩,⟨some 54,.fieldAddr 24 (.tmp 5) 3,some (some 53,true)⟩,⟨some 55,.load 22 (.tmp 54),some (some 53,true)⟩,⟨some 56,.call ⟨.builtin .len,#[.tmp 55],#[22]⟩,some (some 53,true)⟩,⟨some 57,.binOp .neq 3 (.tmp 56) (.const (.int .i64 2)) 3,some (some 53,true)⟩,⟨some 58,.pick (.tmp 53) (.tmp 57) (.const (.bool false)),some (some 49,false)⟩,⟨some 59,.pick (.tmp 49) (.const (.bool true)) (.tmp 58),none⟩]) (.cond (.tmp 59) (.seq (.reg [⟨some 60,.move (.tmp 4),none⟩,⟨some 61,.call ⟨.value (.func 17),#[.const (.int .i64 9),.tmp 60],#[3,3]⟩,none⟩,⟨none,.store 29 (.tmp 2) (.tmp 61),none⟩]) .ret) .skip)) (.seq (.reg [⟨some 62,.fieldAddr 24 (.tmp 5) 0,none⟩,⟨some 63,.load 3 (.tmp 62),none⟩,⟨some 64,.binOp .eql 3 (.tmp 63) (.const (.int .i64 1)) 3,none⟩,⟨some 65,.move (.tmp 64),none⟩,⟨some 66,.fieldAddr 24 (.tmp 5) 1,some (some 65,true)⟩,⟨some 67,.load 9 (.tmp 66),some (some 65,true)⟩,⟨some 68,.call ⟨.value (.func 34),#[.tmp 67],#[9]⟩,some (some 65,true)⟩,⟨some 69,.unOp .not 4 (.tmp 68),some (some 65,true)⟩,⟨some 70,.pick (.tmp 65) (.tmp 69) (.const (.bool false)),none⟩,⟨some 71,.move (.tmp 70),none⟩,⟨some 72,.fieldAddr 24 (.tmp 5) 0,some (some 71,false)⟩,⟨some 73,.load 3 (.tmp 72),some (some 71,false)⟩,⟨some 74,.binOp .neq 3 (.tmp 73) (.const (.int .i64 1)) 3,some (some 71,false)⟩,⟨some 75,.move (.tmp 74),some (some 71,false)⟩,⟨some 76,.fieldAddr 24 (.tmp 5) 1,some (some 75,true)⟩,⟨some 77,.load 9 (.tmp 76),some (some 75,true)⟩,⟨some 78,.binOp .neq 9 (.tmp 77) (.const (.string ⟨#[]⟩)) 9,some (some 75,true)⟩,⟨some 79,.move (.tmp 78),some (some 75,true)⟩,⟨some 80,.fieldAddr 24 (.tmp 5) 2,some (some 79,false)⟩,⟨some 81,.load 4 (.tmp 80),some (some 79,false)⟩,⟨some 82,.pick (.tmp 79) (.const (.bool true)) (.tmp 81),some (some 75,true)⟩,⟨some 83,.pick (.tmp 75) (.tmp 82) (.const (.bool false)),some (some 71,false)⟩,⟨some 84,.pick (.tmp 71) (.const (.bool true)) (.tmp 83),none⟩]) (.cond (.tmp 84) (.seq (.reg [⟨some 85,.move (.tmp 4),none⟩,⟨some 86,.call ⟨.value (.func 17),#[.const (.int .i64 8),.tmp 85],#[3,3]⟩,none⟩,⟨none,.store 29 (.tmp 2) (.tmp 86),none⟩]) .ret) .skip))))))) (.reg [⟨some 21,.move (.tmp 4),none⟩,⟨some 22,.binOp .add 3 (.tmp 21) (.const (.int .i64 1)) 3,none⟩,⟨some 4,.assign (.tmp 22),none⟩]))
def x10 : XC := .seq (.reg [⟨some 2,.alloc 29,none⟩]) (.seq (.seq (.reg [⟨some 6,.move (.tmp 0),none⟩,⟨some 7,.call ⟨.builtin .len,#[.tmp 6],#[22]⟩,none⟩,⟨some 8,.binOp .lss 3 (.tmp 7) (.const (.int .i64 1)) 3,none⟩,⟨some 9,.move (.tmp 8),none⟩,⟨some 10,.move (.tmp 0),some (some 9,false)⟩,⟨some 11,.call ⟨.builtin .len,#[.tmp 10],#[22]⟩,some (some 9,false)⟩,⟨some 12,.binOp .gtr 3 (.tmp 11) (.const (.int .i64 20)) 3,some (some 9,false)⟩,⟨some 13,.pick (.tmp 9) (.const (.bool true)) (.tmp 12),none⟩]) (.cond (.tmp 13) (.seq (.reg [⟨some 14,.call ⟨.value (.func 17),#[.const (.int .i64 2),.const (.int .i64 0)],#[3,3]⟩,none⟩,⟨none,.store 29 (.tmp 2) (.tmp 14),none⟩]) .ret) .skip)) (.seq (.reg [⟨some 15,.move (.tmp 0),none⟩,⟨some 16,.call ⟨.value (.func 11),#[.tmp 15,.const (.int .i64 201)],#[22,3]⟩,none⟩,⟨some 3,.assign (.tmp 16),none⟩]) (.seq (.seq (.reg [⟨some 4,.assign (.const (.int .i64 0)),none⟩]) (.bloop 0 x10_L0)) (x10_T1))))
@[simp] theorem x10_s {C e s K} : type_of% (@X_at C e s K _ _ x10_T1.eq_1) ∧ type_of% (@X_at C e s K _ _ x10_L0.eq_1) ∧ type_of% (@X_at C e s K _ _ x10.eq_1) := ⟨X_at x10_T1.eq_1,X_at x10_L0.eq_1,X_at x10.eq_1⟩
def an10 : Ann := ⟨[],[(0,[],[2,3,4],[2])],[]⟩
@[simp] theorem an10_a : an10.loopOf 0 = ([],[2,3,4],[2]) := rfl
theorem fi10 : FI Try.prog 10 (cxA an10) x10 [.cell 2 29] Try.f10 := fiA Try.func10 mixed
theorem LinearFault_ref (l : List Ln) : CallOK Try.prog 10 [.list (l.map lnr)] [] (.agg [.int .i64 (lnFault l).1,.int .i64 (lnFault l).2]) [] := by
 have hf := fun c a => F_ref c a
 refine fi10.op ?_
 unfold lnFault
 by_cases h0 : l.length < 1
 ·rw [if_pos (.inl h0)]
  have h0' : (l.length : Int) < 1 := by omega
  (refine Sg.h ?_;try repeat' ((first | (with_reducible first|refine brA ?_|refine brE fun _=>?_|refine spl ⟨?_,?_⟩<;>intro _) | refine clo (hf 2 0) ?_) <;> ((try simp -implicitDefEqProofs [h0']); (try simp -implicitDefEqProofs(disch:=first|assumption|(try simp only[lens]);omega -splitDisjunctions) [h0']))))
 have h0' : ¬ (l.length : Int) < 1 := by omega
 by_cases h1 : 20 < l.length
 ·rw [if_pos (.inr h1)]
  have h1' : (20 : Int) < (l.length : Int) := by omega
  (refine Sg.h ?_;try repeat' ((first | (with_reducible first|refine brA ?_|refine brE fun _=>?_|refine spl ⟨?_,?_⟩<;>intro _) | refine clo (hf 2 0) ?_) <;> ((try simp -implicitDefEqProofs [h0',h1']); (try simp -implicitDefEqProofs(disch:=first|assumption|(try simp only[lens]);omega -splitDisjunctions) [h0',h1']))))
 have h1' : ¬ (20 : Int) < (l.length : Int) := by omega
 rw [if_neg (by omega),lfL_take _ 0 201 (by omega) (by omega),← lfL_take _ 0 202 (by omega) (by omega)]
 have hw := Linears_ref l 201 (by decide) (by decide)
 rw [show ((201 : Int) + 1).toNat = 202 from rfl] at hw
 have hlen : ((ndLs l).take 202).length ≤ 202 := by rw [List.length_take]; omega
 generalize (ndLs l).take 202 = L at *
 obtain ⟨R,hR⟩ : ∃ R,lfL L 0 = R := ⟨_,rfl⟩
 rw [hR]
 (refine Sg.h ?_;try repeat' ((first | (with_reducible first|refine brA ?_|refine brE fun _=>?_|refine spl ⟨?_,?_⟩<;>intro _) | refine clo hw ?_) <;> ((try simp -implicitDefEqProofs [h0',h1']); (try simp -implicitDefEqProofs(disch:=first|assumption|(try simp only[lens]);omega -splitDisjunctions) [h0',h1']))))
 refine W_of fun Q hQ => ?_
 have main : ∀ n i : Nat,i + n = L.length → lfL (L.drop i) i = R → Q [(2,.ptr 0 0 0),(3,.list (L.map lnr)),(4,.int .i64 (i : Int))] [.rows 2 [[.int .i64 0,.int .i64 0]]] := by
  intro n
  induction n with
  | zero =>
   intro i hi hR
   rw [List.drop_of_length_le (by omega),lfL] at hR
   subst hR
   apply hQ
   clear hQ
   (refine Sg.h ?_;try repeat' ((with_reducible first|refine brA ?_|refine brE fun _=>?_|refine spl ⟨?_,?_⟩<;>intro _)<;> ((try simp -implicitDefEqProofs); (try simp -implicitDefEqProofs(disch:=first|assumption|(try simp only[lens]);omega -splitDisjunctions)))))
  | succ n ih =>
   intro i hi hR
   have hil : i < L.length := by omega
   have ih := ih (i + 1) (by omega)
   rw [List.drop_eq_getElem_cons hil,lfL] at hR
   have hn := IsName_ref L[i].nm
   generalize hx : L[i] = x at *
   by_cases h2 : i = 200
   ·rw [if_pos h2] at hR
    subst hR
    have h2' : (i : Int) = 200 := by omega
    clear ih
    apply hQ
    clear hQ
    (refine Sg.h ?_;try repeat' ((first | (with_reducible first|refine brA ?_|refine brE fun _=>?_|refine spl ⟨?_,?_⟩<;>intro _) | refine clo (hf 2 0) ?_) <;> ((try simp -implicitDefEqProofs [hil,hx,h2']); (try simp -implicitDefEqProofs(disch:=first|assumption|(try simp only[lens]);omega -splitDisjunctions) [hil,hx,h2']))))
   rw [if_neg h2] at hR
   have h2' : ¬ (i : Int) = 200 := by omega
   by_cases h3 : x.k < 1
   ·rw [show lfN x = 4 by unfold lfN; rw [show kidsL x.k = -1 by unfold kidsL; rw [if_neg (by omega),if_neg (by omega)],if_pos (by decide)],if_pos (by decide)] at hR
    subst hR
    clear ih
    have hf4 := hf 4 i
    apply hQ
    clear hQ
    (refine Sg.h ?_;try repeat' ((first | (with_reducible first|refine brA ?_|refine brE fun _=>?_|refine spl ⟨?_,?_⟩<;>intro _) | refine clo hf4 ?_) <;> ((try simp -implicitDefEqProofs [hil,hx,h2',h3]); (try simp -implicitDefEqProofs(disch:=first|assumption|(try simp only[lens]);omega -splitDisjunctions) [hil,hx,h2',h3]))))
   by_cases h4 : 3 < x.k
   ·rw [show lfN x = 4 by unfold lfN; rw [show kidsL x.k = -1 by unfold kidsL; rw [if_neg (by omega),if_neg (by omega)],if_pos (by decide)],if_pos (by decide)] at hR
    subst hR
    clear ih
    have hf4 := hf 4 i
    apply hQ
    clear hQ
    (refine Sg.h ?_;try repeat' ((first | (with_reducible first|refine brA ?_|refine brE fun _=>?_|refine spl ⟨?_,?_⟩<;>intro _) | refine clo hf4 ?_) <;> ((try simp -implicitDefEqProofs [hil,hx,h2',h3,h4]); (try simp -implicitDefEqProofs(disch:=first|assumption|(try simp only[lens]);omega -splitDisjunctions) [hil,hx,h2',h3,h4]))))
   by_cases h5 : x.k = 1
   ·have hk0 : kidsL x.k = 0 := by unfold kidsL; rw [if_pos h5]
    by_cases h6 : (x.kids.length : Int) = 0
    ·cases hb : isNameB x.nm with
     | false =>
      rw [show lfN x = 8 by unfold lfN lfM; rw [hk0,if_neg (by decide),if_neg (by omega),if_pos (.inl ⟨rfl,hb⟩)],if_pos (by decide)] at hR
      subst hR
      rw [hb] at hn
      clear ih
      have hf4 := hf 8 i
      have h7 : x.kids.length = 0 := by omega
      apply hQ
      clear hQ
      (refine Sg.h ?_;try repeat' ((first | (with_reducible first|refine brA ?_|refine brE fun _=>?_|refine spl ⟨?_,?_⟩<;>intro _) | refine clo hn ?_ | refine clo hf4 ?_) <;> ((try simp -implicitDefEqProofs [hil,hx,h2',h5,h6,h7]); (try simp -implicitDefEqProofs(disch:=first|assumption|(try simp only[lens]);omega -splitDisjunctions) [hil,hx,h2',h5,h6,h7]))))
     | true =>
      rw [show lfN x = 0 by unfold lfN lfM; rw [hk0,if_neg (by decide),if_neg (by omega),if_neg (by rintro (h | h); rw [hb] at h; exact absurd h.2 (by decide); exact absurd h.1 (by decide))],if_neg (by decide)] at hR
      rw [hb] at hn
      have ih := ih hR
      have h7 : x.kids.length = 0 := by omega
      apply hQ
      clear hQ
      (refine Sg.h ?_;try repeat' ((first | (with_reducible first|refine brA ?_|refine brE fun _=>?_|refine spl ⟨?_,?_⟩<;>intro _) | refine clo hn ?_) <;> ((try simp -implicitDefEqProofs [hil,hx,h2',h5,h6,h7]); (try simp -implicitDefEqProofs(disch:=first|assumption|(try simp only[lens]);omega -splitDisjunctions) [hil,hx,h2',h5,h6,h7]))))
      all_goals first | exact ih | (refine at2 ih ?_ ?_ <;> simp; done) | (exfalso; first | omega | (simp_all; done) | (simp_all; omega))
    ·rw [show lfN x = 9 by unfold lfN; rw [hk0,if_neg (by decide),if_pos (by omega)],if_pos (by decide)] at hR
     subst hR
     clear ih
     have hf4 := hf 9 i
     have h7 : ¬ x.kids.length = 0 := by omega
     apply hQ
     clear hQ
     (refine Sg.h ?_;try repeat' ((first | (with_reducible first|refine brA ?_|refine brE fun _=>?_|refine spl ⟨?_,?_⟩<;>intro _) | refine clo hf4 ?_) <;> ((try simp -implicitDefEqProofs [hil,hx,h2',h5,h6,h7]); (try simp -implicitDefEqProofs(disch:=first|assumption|(try simp only[lens]);omega -splitDisjunctions) [hil,hx,h2',h5,h6,h7]))))
   ·have hk0 : kidsL x.k = 2 := by unfold kidsL; rw [if_neg h5,if_pos (by omega)]
    by_cases h6 : (x.kids.length : Int) = 2
    ·by_cases h7 : x.nm = ⟨#[]⟩
     ·cases hb : x.no with
      | true =>
       rw [show lfN x = 8 by unfold lfN lfM; rw [hk0,if_neg (by decide),if_neg (by omega),if_pos (.inr ⟨by decide,.inr hb⟩)],if_pos (by decide)] at hR
       subst hR
       clear ih
       have hf4 := hf 8 i
       have h8 : x.kids.length = 2 := by omega
       apply hQ
       clear hQ
       (refine Sg.h ?_;try repeat' ((first | (with_reducible first|refine brA ?_|refine brE fun _=>?_|refine spl ⟨?_,?_⟩<;>intro _) | refine clo hf4 ?_) <;> ((try simp -implicitDefEqProofs [hil,hx,h2',h3,h4,h5,h6,h7,h8,hb]); (try simp -implicitDefEqProofs(disch:=first|assumption|(try simp only[lens]);omega -splitDisjunctions) [hil,hx,h2',h3,h4,h5,h6,h7,h8,hb]))))
      | false =>
       rw [show lfN x = 0 by unfold lfN lfM; rw [hk0,if_neg (by decide),if_neg (by omega),if_neg (by rintro (h | h); exact absurd h.1 (by decide); rcases h.2 with h | h; exact h h7; rw [hb] at h; cases h)],if_neg (by decide)] at hR
       have ih := ih hR
       have h8 : x.kids.length = 2 := by omega
       apply hQ
       clear hQ
       (refine Sg.h ?_;try repeat' ((with_reducible first|refine brA ?_|refine brE fun _=>?_|refine spl ⟨?_,?_⟩<;>intro _)<;> ((try simp -implicitDefEqProofs [hil,hx,h2',h3,h4,h5,h6,h7,h8,hb]); (try simp -implicitDefEqProofs(disch:=first|assumption|(try simp only[lens]);omega -splitDisjunctions) [hil,hx,h2',h3,h4,h5,h6,h7,h8,hb]))))
       all_goals first | exact ih | (refine at2 ih ?_ ?_ <;> simp; done) | (exfalso; first | omega | (simp_all; done) | (simp_all; omega))
     ·rw [show lfN x = 8 by unfold lfN lfM; rw [hk0,if_neg (by decide),if_neg (by omega),if_pos (.inr ⟨by decide,.inl h7⟩)],if_pos (by decide)] at hR
      subst hR
      clear ih
      have hf4 := hf 8 i
      have h8 : x.kids.length = 2 := by omega
      apply hQ
      clear hQ
      (refine Sg.h ?_;try repeat' ((first | (with_reducible first|refine brA ?_|refine brE fun _=>?_|refine spl ⟨?_,?_⟩<;>intro _) | refine clo hf4 ?_) <;> ((try simp -implicitDefEqProofs [hil,hx,h2',h3,h4,h5,h6,h7,h8]); (try simp -implicitDefEqProofs(disch:=first|assumption|(try simp only[lens]);omega -splitDisjunctions) [hil,hx,h2',h3,h4,h5,h6,h7,h8]))))
    ·rw [show lfN x = 9 by unfold lfN; rw [hk0,if_neg (by decide),if_pos (by omega)],if_pos (by decide)] at hR
     subst hR
     clear ih
     have hf4 := hf 9 i
     have h7 : ¬ x.kids.length = 2 := by omega
     apply hQ
     clear hQ
     (refine Sg.h ?_;try repeat' ((first | (with_reducible first|refine brA ?_|refine brE fun _=>?_|refine spl ⟨?_,?_⟩<;>intro _) | refine clo hf4 ?_) <;> ((try simp -implicitDefEqProofs [hil,hx,h2',h3,h4,h5,h6,h7]); (try simp -implicitDefEqProofs(disch:=first|assumption|(try simp only[lens]);omega -splitDisjunctions) [hil,hx,h2',h3,h4,h5,h6,h7]))))
 all_goals first | exact main L.length 0 (Nat.zero_add _) hR | (refine at2 main L.length 0 (Nat.zero_add _) hR ?_ ?_ <;> simp; done) | (exfalso; first | omega | (simp_all; done) | (simp_all; omega))
def lvR (l : List Ln) : List Ln := ((ndLs l).take 301).filter fun x => decide (x.k = 1)
def x12_T1 : XC := .seq (.reg [⟨some 27,.move (.tmp 4),none⟩,⟨some 2,.assign (.tmp 27),none⟩]) .ret
def x12_L0 : XC := .seq (.seq (.reg [⟨some 8,.move (.tmp 5),none⟩,⟨some 9,.move (.tmp 3),none⟩,⟨some 10,.call ⟨.builtin .len,#[.tmp 9],#[22]⟩,none⟩,⟨some 11,.binOp .lss 3 (.tmp 8) (.tmp 10) 3,none⟩]) (.cond (.tmp 11) .skip (.exit 0))) (.seq (.block 1 (.seq (.reg [⟨some 14,.move (.tmp 3),none⟩,⟨some 15,.move (.tmp 5),none⟩,⟨some 16,.indexAddr 22 (.tmp 14) (.tmp 15),none⟩,⟨some 17,.fieldAddr 24 (.tmp 16) 0,none⟩,⟨some 18,.load 3 (.tmp 17),none⟩,⟨some 19,.binOp .eql 3 (.tmp 18) (.const (.int .i64 1)) 3,none⟩]) (.cond (.tmp 19) (.reg [⟨some 20,.move (.tmp 4),none⟩,⟨some 21,.move (.tmp 3),none⟩,⟨some 22,.move (.tmp 5),none⟩,⟨some 23,.indexAddr 22 (.tmp 21) (.tmp 22),none⟩,⟨some 24,.load 24 (.tmp 23),none⟩,⟨some 25,.buildSlice 22 1 #[(0,.tmp 24)],none⟩,⟨some 26,.call ⟨.builtin .append,#[.tmp 20,.tmp 25],#[22,22]⟩,none⟩,⟨some 4,.assign (.tmp 26),none⟩]) .skip))) (.reg [⟨some 12,.move (.tmp 5),none⟩,⟨some 13,.binOp .add 3 (.tmp 12) (.const (.int .i64 1)) 3,none⟩,⟨some 5,.assign (.tmp 13),none⟩]))
def x12 : XC := .seq (.reg [⟨some 2,.assign (.const (.slice none 0 0)),none⟩]) (.seq (.reg [⟨some 6,.move (.tmp 0),none⟩,⟨some 7,.call ⟨.value (.func 11),#[.tmp 6,.const (.int .i64 300)],#[22,3]⟩,none⟩,⟨some 3,.assign (.tmp 7),none⟩]) (.seq (.reg [⟨some 4,.assign (.const (.slice none 0 0)),none⟩]) (.seq (.seq (.reg [⟨some 5,.assign (.const (.int .i64 0)),none⟩]) (.bloop 0 x12_L0)) (x12_T1))))
@[simp] theorem x12_s {C e s K} : type_of% (@X_at C e s K _ _ x12_T1.eq_1) ∧ type_of% (@X_at C e s K _ _ x12_L0.eq_1) ∧ type_of% (@X_at C e s K _ _ x12.eq_1) := ⟨X_at x12_T1.eq_1,X_at x12_L0.eq_1,X_at x12.eq_1⟩
def an12 : Ann := ⟨[],[(0,[(4,none,4)],[3,4,5],[4])],[]⟩
@[simp] theorem an12_a : an12.loopOf 0 = ([(4,none,4)],[3,4,5],[4]) := rfl
theorem fi12 : FI Try.prog 12 (cxA an12) x12 [.tmp 2] Try.f12 := fiA Try.func12 mixed
theorem Leaves_ref (l : List Ln) : CallOK Try.prog 12 [.list (l.map lnr)] [] (.list ((lvR l).map lnr)) [] := by
 have hw := Linears_ref l 300 (by decide) (by decide)
 rw [show ((300 : Int) + 1).toNat = 301 from rfl] at hw
 unfold lvR
 have hlen : ((ndLs l).take 301).length ≤ 301 := by rw [List.length_take]; omega
 generalize (ndLs l).take 301 = L at *
 obtain ⟨R,hR⟩ : ∃ R,L.filter (fun x => decide (x.k = 1)) = R := ⟨_,rfl⟩
 rw [hR]
 refine fi12.os ?_
 (refine Sg.h ?_;try repeat' ((first | (with_reducible first|refine brA ?_|refine brE fun _=>?_|refine spl ⟨?_,?_⟩<;>intro _) | refine clo hw ?_) <;> ((try simp -implicitDefEqProofs); (try simp -implicitDefEqProofs(disch:=first|assumption|(try simp only[lens]);omega -splitDisjunctions)))))
 refine W_of fun Q hQ => ?_
 have main : ∀ n i (out : List Ln),i + n = L.length → out.length ≤ i → out ++ (L.drop i).filter (fun x => decide (x.k = 1)) = R → Q [(3,.list (L.map lnr)),(4,.sl 0 0 out.length),(5,.int .i64 (i : Int))] [.rows 4 (out.map lnr)] := by
  intro n
  induction n with
  | zero =>
   intro i out hi ho hR
   rw [List.drop_of_length_le (by omega),List.filter_nil,List.append_nil] at hR
   subst hR
   apply hQ
   clear hQ
   (refine Sg.h ?_;try repeat' ((with_reducible first|refine brA ?_|refine brE fun _=>?_|refine spl ⟨?_,?_⟩<;>intro _)<;> ((try simp -implicitDefEqProofs); (try simp -implicitDefEqProofs(disch:=first|assumption|(try simp only[lens]);omega -splitDisjunctions)))))
  | succ n ih =>
   intro i out hi ho hR
   have hil : i < L.length := by omega
   rw [List.drop_eq_getElem_cons hil,List.filter_cons] at hR
   generalize hx : L[i] = x at *
   by_cases h1 : x.k = 1
   ·rw [if_pos (by simpa using h1)] at hR
    have ih := ih (i + 1) (out ++ [x]) (by omega) (by simp; omega) (by rw [List.append_assoc]; exact hR)
    clear hR
    apply hQ
    clear hQ
    (refine Sg.h ?_;try repeat' ((with_reducible first|refine brA ?_|refine brE fun _=>?_|refine spl ⟨?_,?_⟩<;>intro _)<;> ((try simp -implicitDefEqProofs [hil,hx,h1]); (try simp -implicitDefEqProofs(disch:=first|assumption|(try simp only[lens]);omega -splitDisjunctions) [hil,hx,h1]))))
    all_goals first | exact ih | (refine at2 ih ?_ ?_ <;> simp; done) | (exfalso; first | omega | (simp_all; done) | (simp_all; omega))
   ·rw [if_neg (by simpa using h1)] at hR
    have ih := ih (i + 1) out (by omega) (by omega) hR
    clear hR
    apply hQ
    clear hQ
    (refine Sg.h ?_;try repeat' ((with_reducible first|refine brA ?_|refine brE fun _=>?_|refine spl ⟨?_,?_⟩<;>intro _)<;> ((try simp -implicitDefEqProofs [hil,hx,h1]); (try simp -implicitDefEqProofs(disch:=first|assumption|(try simp only[lens]);omega -splitDisjunctions) [hil,hx,h1]))))
    all_goals first | exact ih | (refine at2 ih ?_ ?_ <;> simp; done) | (exfalso; first | omega | (simp_all; done) | (simp_all; omega))
 all_goals first | exact main _ 0 [] (Nat.zero_add _) (by simp) (by simpa using hR) | (refine at2 main _ 0 [] (Nat.zero_add _) (by simp) (by simpa using hR) ?_ ?_ <;> simp; done) | (exfalso; first | omega | (simp_all; done) | (simp_all; omega))
def dlT : Lt → Lt
 | .atom nm no => .atom nm (!no)
 | .op p a b => .op (!p) (dlT a) (dlT b)
end Go.Proofs.Ytbdionmmfigfiaa
