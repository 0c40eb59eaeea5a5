import Derived.Test.YtbimioonhfhflaaDMnJ
set_option linter.unusedVariables false
set_option linter.unusedSimpArgs false
set_option maxRecDepth 100000
set_option maxHeartbeats 4000000
namespace Go.Proofs.Ytbimioonhfhflaa
open Go Go.Pv
@[simp] theorem rg6 : List.range 6 = [0,1,2,3,4,5]:=rfl
def stX (N : Int) (F : List Fn) (P : List Pd) (e : Ex) (L : Ev) (b : Bool) : Store:=[.rows 1 [[.iptr [.int .i64 N,.imap (funM F),.imap (predM P)]]],.rows 4 [exr e],.rows 1 [[.imap (mapI L)]],.rows 1 [[.bool b]],.rows 1 [[.fn (.func 52) [] [.ptr 2 0 0,.ptr 3 0 0,.ptr 0 0 0,.ptr 4 0 0]]],.rows 1 [[.fn (.func 54) [] [.ptr 0 0 0,.ptr 3 0 0,.ptr 4 0 0,.ptr 5 0 0]]]]
attribute [simp] stX
theorem ndE_kid {e q : Ex} (h : q ∈ e.kids) : (ndE q).length + 1 ≤ (ndE e).length:=by
 rw [ndE_eq e,List.length_cons,List.length_append]
 have : ∀ l : List Ex,q ∈ l → (ndE q).length ≤ (ndEs l).length:=by
  intro l
  induction l with
  | nil=>intro h;cases h
  | cons a r ih=>
   intro h
   rw [ndEs,List.length_append]
   rcases List.mem_cons.1 h with rfl | h
   ·omega
   ·have:=ih h;omega
 have:=this e.kids h
 omega
section
variable {C : WC} {f : Operand} {args : Array Operand} {d : Option Tmp} {fid : FuncId} {vs : List PV} {e : AE} {rest : Store} {N : Int} {F : List Fn} {P : List Pd} {L : Ev} {e0 : Ex} {b b' : Bool} {K : KS} {ops : List LOp}
theorem liveX : liveS [0,1,2,3,4,5] (stX N F P e0 L b ++ rest) [0,1,2,3,4,5] = stX N F P e0 L b:=by simp [liveS]
theorem cl_kx [EnT C.P fid] {v : PV} (hc : CallOK C.P fid vs (stX N F P e0 L b) v (stX N F P e0 L b')) (hk : O C .pl ops (updA e d (upN [0,1,2,3,4,5] 4 v)) (backS [0,1,2,3,4,5] (stX N F P e0 L b ++ rest) (stX N F P e0 L b')) K) (hv : vs.map (renN [0,1,2,3,4,5] 4) = vs:=by simp) : CL C f args d (some (fid,vs)) ops e (stX N F P e0 L b ++ rest) K:=by
 refine CL.sub [0,1,2,3,4,5] (s2:=stX N F P e0 L b') (v:=v) (by rw [hv,liveX];exact hc) ?_
 exact hk
theorem liveX1 : liveS [2,3,0,4] (stX N F P e0 L b ++ rest) [2,3,0,4] = stK N F P L b:=by simp [liveS]
theorem cl_k1 [EnT C.P fid] {v : PV} {vs' : List PV} (hc : CallOK C.P fid vs' (stK N F P L b) v (stK N F P L b')) (hk : O C .pl ops (updA e d (upN [2,3,0,4] 4 v)) (backS [2,3,0,4] (stX N F P e0 L b ++ rest) (stK N F P L b')) K) (hv : vs.map (renN [2,3,0,4] 4) = vs':=by simp) : CL C f args d (some (fid,vs)) ops e (stX N F P e0 L b ++ rest) K:=by
 refine CL.sub [2,3,0,4] (s2:=stK N F P L b') (v:=v) (by rw [hv,liveX1];exact hc) ?_
 exact hk
end
def x54_L2 : XC:=.seq (.reg [⟨some 69,.binOp .lss 3 (.tmp 68) (.tmp 67) 3,none⟩]) (.seq (.cond (.tmp 69) .skip (.exit 2)) (.seq (.block 3 (.seq (.reg [⟨some 70,.indexAddr 27 (.tmp 66) (.tmp 68),none⟩,⟨some 71,.load 29 (.tmp 70),none⟩,⟨some 13,.alloc 29,none⟩,⟨none,.store 29 (.tmp 13) (.tmp 71),none⟩]) (.reg [⟨some 72,.load 99 (.tmp 5),none⟩,⟨some 73,.load 29 (.tmp 13),none⟩,⟨some 74,.move (.tmp 1),none⟩,⟨some 75,.call ⟨.value (.tmp 72),#[.tmp 73,.tmp 74],#[29,32]⟩,none⟩]))) (.reg [⟨some 76,.binOp .add 3 (.tmp 68) (.const (.int .i64 1)) 3,none⟩,⟨some 68,.move (.tmp 76),none⟩])))
def x54_T1 : XC:=.seq (.seq (.reg [⟨some 51,.fieldAddr 29 (.tmp 6) 0,none⟩,⟨some 52,.load 3 (.tmp 51),none⟩,⟨some 53,.binOp .eql 3 (.tmp 52) (.const (.int .i64 9)) 3,none⟩,⟨some 54,.move (.tmp 53),none⟩,⟨some 55,.fieldAddr 29 (.tmp 6) 0,some (some 54,false)⟩,⟨some 56,.load 3 (.tmp 55),some (some 54,false)⟩,⟨some 57,.binOp .eql 3 (.tmp 56) (.const (.int .i64 10)) 3,some (some 54,false)⟩,⟨some 58,.pick (.tmp 54) (.const (.bool true)) (.tmp 57),none⟩]) (.cond (.tmp 58) (.drawn 10 [⟨some 59,.move (.tmp 1),none⟩,⟨some 60,.call ⟨.value (.func 55),#[.tmp 59],#[32]⟩,none⟩,⟨some 61,.fieldAddr 29 (.tmp 6) 1,none⟩,⟨some 62,.load 9 (.tmp 61),none⟩,⟨some 63,.buildSlice 32 1 #[(0,.tmp 62)],none⟩,⟨some 64,.call ⟨.builtin .append,#[.tmp 60,.tmp 63],#[32,32]⟩,none⟩,⟨some 1,.assign (.tmp 64),none⟩]) .skip)) (.seq (.reg [⟨some 65,.fieldAddr 29 (.tmp 6) 3,none⟩,⟨some 66,.load 27 (.tmp 65),none⟩,⟨some 67,.call ⟨.builtin .len,#[.tmp 66],#[27]⟩,none⟩,⟨some 68,.move (.const (.int .i64 0)),none⟩]) (.bloop 2 x54_L2))
def x54_L0 : XC:=.seq (.reg [⟨some 43,.binOp .lss 3 (.tmp 42) (.tmp 41) 3,none⟩]) (.seq (.cond (.tmp 43) .skip (.exit 0)) (.seq (.block 1 (.seq (.reg [⟨some 44,.indexAddr 26 (.tmp 40) (.tmp 42),none⟩,⟨some 45,.load 31 (.tmp 44),none⟩,⟨some 11,.alloc 31,none⟩,⟨none,.store 31 (.tmp 11) (.tmp 45),none⟩]) (.reg [⟨some 46,.load 96 (.tmp 4),none⟩,⟨some 47,.load 31 (.tmp 11),none⟩,⟨some 48,.move (.tmp 1),none⟩,⟨some 49,.call ⟨.value (.tmp 46),#[.tmp 47,.tmp 48],#[31,32]⟩,none⟩]))) (.reg [⟨some 50,.binOp .add 3 (.tmp 42) (.const (.int .i64 1)) 3,none⟩,⟨some 42,.move (.tmp 50),none⟩])))
def x54 : XC:=.seq (.reg [⟨some 6,.box 29 (.tmp 0),none⟩]) (.seq (.seq (.reg [⟨some 14,.fieldAddr 29 (.tmp 6) 0,none⟩,⟨some 15,.load 3 (.tmp 14),none⟩,⟨some 16,.binOp .eql 3 (.tmp 15) (.const (.int .i64 1)) 3,none⟩]) (.cond (.tmp 16) (.seq (.drawn 2 [⟨some 18,.load 68 (.tmp 2),none⟩,⟨some 19,.nilCheck (.tmp 18),none⟩,⟨some 20,.fieldAddr 95 (.tmp 19) 2,none⟩,⟨some 21,.load 93 (.tmp 20),none⟩,⟨some 22,.fieldAddr 29 (.tmp 6) 1,none⟩,⟨some 23,.load 9 (.tmp 22),none⟩,⟨some 24,.lookup 93 (.tmp 21) (.tmp 23) true,none⟩,⟨some 17,.move (.tmp 24),none⟩,⟨some 25,.extract (.tmp 17) 0,none⟩,⟨some 26,.extract (.tmp 17) 1,none⟩,⟨some 8,.alloc 61,none⟩,⟨none,.store 61 (.tmp 8) (.tmp 25),none⟩,⟨some 9,.assign (.tmp 26),none⟩]) (.reg [⟨some 27,.load 4 (.tmp 3),none⟩,⟨some 28,.move (.tmp 27),none⟩,⟨some 29,.move (.tmp 9),some (some 28,true)⟩,⟨some 30,.pick (.tmp 28) (.tmp 29) (.const (.bool false)),none⟩,⟨some 31,.move (.tmp 30),none⟩,⟨some 32,.fieldAddr 61 (.tmp 8) 1,some (some 31,true)⟩,⟨some 33,.load 3 (.tmp 32),some (some 31,true)⟩,⟨some 34,.fieldAddr 29 (.tmp 6) 2,some (some 31,true)⟩,⟨some 35,.load 26 (.tmp 34),some (some 31,true)⟩,⟨some 36,.call ⟨.builtin .len,#[.tmp 35],#[26]⟩,some (some 31,true)⟩,⟨some 37,.binOp .eql 3 (.tmp 33) (.tmp 36) 3,some (some 31,true)⟩,⟨some 38,.pick (.tmp 31) (.tmp 37) (.const (.bool false)),none⟩,⟨none,.store 4 (.tmp 3) (.tmp 38),none⟩])) .skip)) (.seq (.seq (.reg [⟨some 39,.fieldAddr 29 (.tmp 6) 2,none⟩,⟨some 40,.load 26 (.tmp 39),none⟩,⟨some 41,.call ⟨.builtin .len,#[.tmp 40],#[26]⟩,none⟩,⟨some 42,.move (.const (.int .i64 0)),none⟩]) (.bloop 0 x54_L0)) (x54_T1)))
@[simp] theorem x54_s {C e s K} : type_of% (@X_at C e s K _ _ x54_L2.eq_1) ∧ type_of% (@X_at C e s K _ _ x54_T1.eq_1) ∧ type_of% (@X_at C e s K _ _ x54_L0.eq_1) ∧ type_of% (@X_at C e s K _ _ x54.eq_1):=⟨X_at x54_L2.eq_1,X_at x54_T1.eq_1,X_at x54_L0.eq_1,X_at x54.eq_1⟩
def an54 : Ann:=⟨[(2,.mix3 11 9),(10,.mix 5)],[(2,[(1,some 5000,0)],[1,5,66,67,68],[]),(0,[],[1,4,5,6,40,41,42],[1,5,6])],[]⟩
@[simp] theorem an54_a : an54.clsOf 2 = .mix3 11 9 ∧ an54.clsOf 10 = .mix 5 ∧ an54.frzOf 2 = [] ∧ an54.frzOf 10 = [] ∧ an54.loopOf 2 = ([(1,some 5000,0)],[1,5,66,67,68],[]) ∧ an54.loopOf 0 = ([],[1,4,5,6,40,41,42],[1,5,6]):=⟨rfl,rfl,rfl,rfl,rfl,rfl⟩
theorem fi54 : FI Try.prog 54 (cxA an54) x54 [] Try.f54:=fiA Try.func54 mixed
theorem known2_world (N : Int) (F : List Fn) (P : List Pd) (e0 : Ex) (L : Ev) (e : Ex) : ∀ (B : List ByteArray) (hB : B.length + (ndE e).length ≤ 1000000) (b : Bool),CallOK Try.prog 54 [.agg (exr e),.list (B.map strRow),.ptr 0 0 0,.ptr 3 0 0,.ptr 4 0 0,.ptr 5 0 0] (stX N F P e0 L b) (.tuple []) (stX N F P e0 L (b && exK F P L e B)):=by
 induction e using Ex.ind with
 | h e ih=>
  intro B hB b
  have he:=exr_eq e
  rw [exK_eq]
  have hcl:=Clip_strs B (by omega)
  have hw:=fun w=>known1_world N F P L B (by omega) w
  -- the kids
  have key2 : ∀ b1 B' R,B' = bindB e.k e.nm B → (b1 && exsK F P L e.kids (bindB e.k e.nm B)) = R → e.kids.length ≤ 9223372036854775807 → W (cxA an54 Try.prog 6) 2 x54_L2 (KS.fin [] (gcFin 6 (PV.tuple []) (stX N F P e0 L R))) [(1,.list (B'.map strRow)),(5,.ptr 5 0 0),(66,.list (e.kids.map exr)),(67,.int .i64 (e.kids.length : Int)),(68,.int .i64 0)] (stX N F P e0 L b1):=by
   intro b1 B' R hB' hR hlen
   rw [← hB'] at hR
   have hBl : B'.length ≤ B.length + 1:=by
    rw [hB',bindB];split
    ·simp
    ·omega
   refine W_of fun Q hQ=>?_
   have main : ∀ n i b2,i + n = e.kids.length → (b2 && exsK F P L (e.kids.drop i) B') = R → Q [(1,.list (B'.map strRow)),(5,.ptr 5 0 0),(66,.list (e.kids.map exr)),(67,.int .i64 (e.kids.length : Int)),(68,.int .i64 (i : Int))] (stX N F P e0 L b2):=by
    intro n
    induction n with
    | zero=>
     intro i b2 hi hR
     rw [List.drop_of_length_le (by omega),exsK,Bool.and_true] at hR
     subst hR
     obtain rfl : i = e.kids.length:=by omega
     apply hQ
     clear hQ
     (refine Sg.h ?_;try repeat' ((with_reducible first|refine brA ?_|refine brE fun _=>?_|refine spl ⟨?_,?_⟩<;>intro _)<;>((try simp -implicitDefEqProofs);(try simp -implicitDefEqProofs(disch:=first|assumption|(try simp only[lens]);omega -splitDisjunctions)))))
    | succ n ihn=>
     intro i b2 hi hR
     have hil : i < e.kids.length:=by omega
     rw [List.drop_eq_getElem_cons hil,exsK] at hR
     dsimp only at hR
     rw [← Bool.and_assoc] at hR
     have hc:=ih _ (List.getElem_mem hil) B' (by have:=ndE_kid (List.getElem_mem hil);omega) b2
     have ihn:=ihn (i + 1) _ (by omega) hR
     generalize hx : e.kids[i] = x at *
     generalize (b2 && exK F P L x B') = b3 at *
     have hi' : (i : Int) < (e.kids.length : Int):=by omega
     apply hQ
     clear hQ
     (refine Sg.h ?_;try repeat' ((with_reducible first|refine brA ?_|refine brE fun _=>?_|refine spl ⟨?_,?_⟩<;>intro _)<;>((try simp -implicitDefEqProofs [hi',hil,hx]);(try simp -implicitDefEqProofs(disch:=first|assumption|(try simp only[lens]);omega -splitDisjunctions) [hi',hil,hx]))))
     refine cl_kx (rest:=[_]) hc ?_
     (refine Sg.h ?_;try repeat' ((with_reducible first|refine brA ?_|refine brE fun _=>?_|refine spl ⟨?_,?_⟩<;>intro _)<;>((try simp -implicitDefEqProofs);(try simp -implicitDefEqProofs(disch:=first|assumption|(try simp only[lens]);omega -splitDisjunctions)))))
     all_goals first|exact ihn|(refine at2 ihn ?_ ?_<;>simp;done)|(exfalso;first|omega|(simp_all;done)|(simp_all;omega))
   all_goals first|exact main e.kids.length 0 b1 (Nat.zero_add _) hR|(refine at2 main e.kids.length 0 b1 (Nat.zero_add _) hR ?_ ?_<;>simp;done)|(exfalso;first|omega|(simp_all;done)|(simp_all;omega))
  have tk : List.take (B.length + 1) (B.map strRow ++ [[PV.str e.nm]]) = (B ++ [e.nm]).map strRow:=by
   rw [List.take_of_length_le (by simp)];simp [strRow]
  -- the words
  have key : ∀ b1 R,(b1 && (kwsF F L B e.words && exsK F P L e.kids (bindB e.k e.nm B))) = R → e.words.length ≤ 9223372036854775807 → W (cxA an54 Try.prog 6) 0 x54_L0 (KS.seq x54_T1 (KS.fin [] (gcFin 6 (PV.tuple []) (stX N F P e0 L R)))) [(1,.list (B.map strRow)),(4,.ptr 4 0 0),(5,.ptr 5 0 0),(6,.ptr 6 0 0),(40,.list (e.words.map wrd)),(41,.int .i64 (e.words.length : Int)),(42,.int .i64 0)] (stX N F P e0 L b1 ++ [.rows 4 [exr e]]):=by
   intro b1 R hR hlen
   refine W_of fun Q hQ=>?_
   have main : ∀ n i b2,i + n = e.words.length → (b2 && (kwsF F L B (e.words.drop i) && exsK F P L e.kids (bindB e.k e.nm B))) = R → Q [(1,.list (B.map strRow)),(4,.ptr 4 0 0),(5,.ptr 5 0 0),(6,.ptr 6 0 0),(40,.list (e.words.map wrd)),(41,.int .i64 (e.words.length : Int)),(42,.int .i64 (i : Int))] (stX N F P e0 L b2 ++ [.rows 4 [exr e]]):=by
    intro n
    induction n with
    | zero=>
     intro i b2 hi hR
     rw [List.drop_of_length_le (by omega),kwsF,Bool.true_and] at hR
     obtain rfl : i = e.words.length:=by omega
     apply hQ
     clear hQ
     by_cases hk9 : e.k = 9
     ·have key2 := fun h => key2 b2 (B ++ [e.nm]) R (by rw [bindB,if_pos (.inl hk9)]) hR h
      (refine Sg.h ?_;try repeat' ((first|(with_reducible first|refine brA ?_|refine brE fun _=>?_|refine spl ⟨?_,?_⟩<;>intro _)|refine clo hcl ?_)<;>((try simp -implicitDefEqProofs [hk9]);(try simp -implicitDefEqProofs(disch:=first|assumption|(try simp only[lens]);omega -splitDisjunctions) [hk9]))))
      rw [tk]
      exact key2 (by assumption)
     by_cases hk10 : e.k = 10
     ·have key2 := fun h => key2 b2 (B ++ [e.nm]) R (by rw [bindB,if_pos (.inr hk10)]) hR h
      (refine Sg.h ?_;try repeat' ((first|(with_reducible first|refine brA ?_|refine brE fun _=>?_|refine spl ⟨?_,?_⟩<;>intro _)|refine clo hcl ?_)<;>((try simp -implicitDefEqProofs [hk9,hk10]);(try simp -implicitDefEqProofs(disch:=first|assumption|(try simp only[lens]);omega -splitDisjunctions) [hk9,hk10]))))
      rw [tk]
      exact key2 (by assumption)
     have key2:=fun h=>key2 b2 B R (by rw [bindB,if_neg (fun g=>g.elim hk9 hk10)]) hR h
     (refine Sg.h ?_;try repeat' ((with_reducible first|refine brA ?_|refine brE fun _=>?_|refine spl ⟨?_,?_⟩<;>intro _)<;>((try simp -implicitDefEqProofs [hk9,hk10]);(try simp -implicitDefEqProofs(disch:=first|assumption|(try simp only[lens]);omega -splitDisjunctions) [hk9,hk10]))))
     exact key2 (by assumption)
    | succ n ihn=>
     intro i b2 hi hR
     have hil : i < e.words.length:=by omega
     rw [List.drop_eq_getElem_cons hil,kwsF,Bool.and_assoc,← Bool.and_assoc] at hR
     have hc:=hw e.words[i] b2
     have ihn:=ihn (i + 1) _ (by omega) hR
     generalize hx : e.words[i] = x at *
     generalize (b2 && kwF F L B x) = b3 at *
     have hi' : (i : Int) < (e.words.length : Int):=by omega
     apply hQ
     clear hQ
     (refine Sg.h ?_;try repeat' ((with_reducible first|refine brA ?_|refine brE fun _=>?_|refine spl ⟨?_,?_⟩<;>intro _)<;>((try simp -implicitDefEqProofs [hi',hil,hx]);(try simp -implicitDefEqProofs(disch:=first|assumption|(try simp only[lens]);omega -splitDisjunctions) [hi',hil,hx]))))
     refine cl_k1 (rest:=[_,_]) hc ?_
     (refine Sg.h ?_;try repeat' ((with_reducible first|refine brA ?_|refine brE fun _=>?_|refine spl ⟨?_,?_⟩<;>intro _)<;>((try simp -implicitDefEqProofs);(try simp -implicitDefEqProofs(disch:=first|assumption|(try simp only[lens]);omega -splitDisjunctions)))))
     all_goals first|exact ihn|(refine at2 ihn ?_ ?_<;>simp;done)|(exfalso;first|omega|(simp_all;done)|(simp_all;omega))
   all_goals first|exact main e.words.length 0 b1 (Nat.zero_add _) hR|(refine at2 main e.words.length 0 b1 (Nat.zero_add _) hR ?_ ?_<;>simp;done)|(exfalso;first|omega|(simp_all;done)|(simp_all;omega))
  refine fi54.og ?_
  by_cases hk1 : e.k = 1
  ·obtain ⟨f1,f2⟩ := find_predM e.nm P 0
   rw [decide_eq_true hk1,Bool.not_true,Bool.false_or]
   obtain ⟨c,hc⟩ : ∃ c,(predAt e.nm P).any (fun f=>decide (f.ar = (e.words.length : Int))) = c:=⟨_,rfl⟩
   rw [hc]
   cases hl : predAt e.nm P with
   | none=>
    have f1:=f1 hl
    rw [hl] at hc
    obtain rfl : c = false:=by rw [← hc];rfl
    cases b with
    | true=>
     (refine Sg.h ?_;try repeat' ((with_reducible first|refine brA ?_|refine brE fun _=>?_|refine spl ⟨?_,?_⟩<;>intro _)<;>((try simp -implicitDefEqProofs [hk1,f1]);(try simp -implicitDefEqProofs(disch:=first|assumption|(try simp only[lens]);omega -splitDisjunctions) [hk1,f1]))))
     rw [LO_some]
     refine ⟨fun hlen=>?_,fun hlen=>?_⟩
     all_goals (refine Sg.h ?_;try repeat' ((with_reducible first|refine brA ?_|refine brE fun _=>?_|refine spl ⟨?_,?_⟩<;>intro _)<;>((try simp -implicitDefEqProofs);(try simp -implicitDefEqProofs(disch:=first|assumption|(try simp only[lens]);omega -splitDisjunctions)))))
     all_goals exact key _ _ (by simp) hlen
    | false=>
     (refine Sg.h ?_;try repeat' ((with_reducible first|refine brA ?_|refine brE fun _=>?_|refine spl ⟨?_,?_⟩<;>intro _)<;>((try simp -implicitDefEqProofs [hk1,f1]);(try simp -implicitDefEqProofs(disch:=first|assumption|(try simp only[lens]);omega -splitDisjunctions) [hk1,f1]))))
     rw [LO_some]
     refine ⟨fun hlen=>?_,fun hlen=>?_⟩
     all_goals (refine Sg.h ?_;try repeat' ((with_reducible first|refine brA ?_|refine brE fun _=>?_|refine spl ⟨?_,?_⟩<;>intro _)<;>((try simp -implicitDefEqProofs);(try simp -implicitDefEqProofs(disch:=first|assumption|(try simp only[lens]);omega -splitDisjunctions)))))
     all_goals exact key _ _ (by simp) hlen
   | some p=>
    obtain ⟨j,f3,f4⟩:=f2 p hl
    rw [hl] at hc
    have hc : decide (p.ar = (e.words.length : Int)) = c:=by rw [← hc];rfl
    cases b with
    | true=>
     by_cases har : p.ar = (e.words.length : Int)
     ·obtain rfl : c = true := by rw [← hc]; exact decide_eq_true har
      (refine Sg.h ?_;try repeat' ((with_reducible first|refine brA ?_|refine brE fun _=>?_|refine spl ⟨?_,?_⟩<;>intro _)<;>((try simp -implicitDefEqProofs [hk1,f3]);(try simp -implicitDefEqProofs(disch:=first|assumption|(try simp only[lens]);omega -splitDisjunctions) [hk1,f3]))))
      rw [LO_some]
      refine ⟨fun hlen=>?_,fun hlen=>?_⟩
      all_goals (refine Sg.h ?_;try repeat' ((with_reducible first|refine brA ?_|refine brE fun _=>?_|refine spl ⟨?_,?_⟩<;>intro _)<;>((try simp -implicitDefEqProofs [har]);(try simp -implicitDefEqProofs(disch:=first|assumption|(try simp only[lens]);omega -splitDisjunctions) [har]))))
      all_goals exact key _ _ (by simp [hk1]) hlen
     ·obtain rfl : c = false := by rw [← hc]; exact decide_eq_false har
      (refine Sg.h ?_;try repeat' ((with_reducible first|refine brA ?_|refine brE fun _=>?_|refine spl ⟨?_,?_⟩<;>intro _)<;>((try simp -implicitDefEqProofs [hk1,f3]);(try simp -implicitDefEqProofs(disch:=first|assumption|(try simp only[lens]);omega -splitDisjunctions) [hk1,f3]))))
      rw [LO_some]
      refine ⟨fun hlen=>?_,fun hlen=>?_⟩
      all_goals (refine Sg.h ?_;try repeat' ((with_reducible first|refine brA ?_|refine brE fun _=>?_|refine spl ⟨?_,?_⟩<;>intro _)<;>((try simp -implicitDefEqProofs [har]);(try simp -implicitDefEqProofs(disch:=first|assumption|(try simp only[lens]);omega -splitDisjunctions) [har]))))
      all_goals exact key _ _ (by simp [hk1]) hlen
    | false=>
     (refine Sg.h ?_;try repeat' ((with_reducible first|refine brA ?_|refine brE fun _=>?_|refine spl ⟨?_,?_⟩<;>intro _)<;>((try simp -implicitDefEqProofs [hk1,f3]);(try simp -implicitDefEqProofs(disch:=first|assumption|(try simp only[lens]);omega -splitDisjunctions) [hk1,f3]))))
     rw [LO_some]
     refine ⟨fun hlen=>?_,fun hlen=>?_⟩
     all_goals (refine Sg.h ?_;try repeat' ((with_reducible first|refine brA ?_|refine brE fun _=>?_|refine spl ⟨?_,?_⟩<;>intro _)<;>((try simp -implicitDefEqProofs);(try simp -implicitDefEqProofs(disch:=first|assumption|(try simp only[lens]);omega -splitDisjunctions)))))
     all_goals exact key _ _ (by simp) hlen
  ·rw [decide_eq_false hk1,Bool.not_false,Bool.true_or,Bool.true_and]
   (refine Sg.h ?_;try repeat' ((with_reducible first|refine brA ?_|refine brE fun _=>?_|refine spl ⟨?_,?_⟩<;>intro _)<;>((try simp -implicitDefEqProofs [hk1]);(try simp -implicitDefEqProofs(disch:=first|assumption|(try simp only[lens]);omega -splitDisjunctions) [hk1]))))
   exact key _ _ rfl (by assumption)
end Go.Proofs.Ytbimioonhfhflaa
