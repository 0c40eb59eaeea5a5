import Derived.Test.YtfhakdonenhnbaaCMnM
set_option linter.unusedVariables false
set_option linter.unusedSimpArgs false
set_option maxRecDepth 100000
set_option maxHeartbeats 4000000
namespace Go.Proofs.Ytfhakdonenhnbaa
open Go Go.Pv
theorem any_pred {P : List Pd} (hn : (P.map Pd.name).Nodup) (x : ByteArray) (c : Int) : (predAt x P).any (fun f=>decide (f.ar = c)) = P.any fun f=>decide (f.name = x) && decide (f.ar = c):=by
 induction P with
 | nil=>rfl
 | cons g r ih=>
  rw [List.map_cons,List.nodup_cons] at hn
  have ih:=ih hn.2
  unfold predAt at ih ⊢
  rw [List.any_cons]
  by_cases h : g.name = x
  ·have e2 : decide (x = g.name) = true := decide_eq_true h.symm
   rw [List.find?_cons,e2]
   dsimp only
   have : (r.any fun f=>decide (f.name = x) && decide (f.ar = c)) = false:=by
    rw [List.any_eq_false]
    intro f hf
    have : ¬ f.name = x:=fun g'=>hn.1 (by rw [h,← g'];exact List.mem_map_of_mem hf)
    simp [this]
   rw [this,decide_eq_true h,Bool.true_and,Bool.or_false]
   rfl
  ·have e2 : decide (x = g.name) = false := decide_eq_false fun g' => h g'.symm
   rw [List.find?_cons,e2,decide_eq_false h,Bool.false_and,Bool.false_or]
   exact ih
theorem zeros_of (n : Nat) : List.replicate n [PV.int .i64 0] = (List.replicate n (0 : Int)).map intRow:=by simp [intRow]
theorem kids_nd (e : Ex) : e.kids.length ≤ (ndE e).length:=by
 rw [ndE_eq e,List.length_cons,List.length_append]
 have : ∀ l : List Ex,l.length ≤ (ndEs l).length:=by
  intro l
  induction l with
  | nil=>simp
  | cons a r ih=>
   rw [ndEs,List.length_append,List.length_cons]
   have : 0 < (ndE a).length:=by rw [ndE_eq];simp
   omega
 have:=this e.kids
 omega
def x11_L4 : XC:=.seq (.seq (.reg [⟨some 82,.move (.tmp 11),none⟩,⟨some 83,.fieldAddr 29 (.tmp 4) 3,none⟩,⟨some 84,.load 27 (.tmp 83),none⟩,⟨some 85,.call ⟨.builtin .len,#[.tmp 84],#[27]⟩,none⟩,⟨some 86,.binOp .lss 3 (.tmp 82) (.tmp 85) 3,none⟩]) (.cond (.tmp 86) .skip (.exit 4))) (.seq (.block 5 (.seq (.drawn 20 [⟨some 89,.load 25 (.tmp 3),none⟩,⟨some 90,.fieldAddr 29 (.tmp 4) 3,none⟩,⟨some 91,.load 27 (.tmp 90),none⟩,⟨some 92,.move (.tmp 11),none⟩,⟨some 93,.indexAddr 27 (.tmp 91) (.tmp 92),none⟩,⟨some 94,.load 29 (.tmp 93),none⟩,⟨some 95,.move (.tmp 2),none⟩,⟨some 96,.call ⟨.value (.func 11),#[.tmp 89,.tmp 94,.tmp 95],#[25,29,57]⟩,none⟩,⟨some 97,.unOp .not 4 (.tmp 96),none⟩]) (.cond (.tmp 97) (.seq (.reg [⟨some 6,.assign (.const (.bool false)),none⟩]) .ret) .skip))) (.reg [⟨some 87,.move (.tmp 11),none⟩,⟨some 88,.binOp .add 3 (.tmp 87) (.const (.int .i64 1)) 3,none⟩,⟨some 11,.assign (.tmp 88),none⟩]))
def x11_T4 : XC:=.seq (.seq (.reg [⟨some 68,.fieldAddr 29 (.tmp 4) 0,none⟩,⟨some 69,.load 3 (.tmp 68),none⟩,⟨some 70,.binOp .eql 3 (.tmp 69) (.const (.int .i64 9)) 3,none⟩,⟨some 71,.move (.tmp 70),none⟩,⟨some 72,.fieldAddr 29 (.tmp 4) 0,some (some 71,false)⟩,⟨some 73,.load 3 (.tmp 72),some (some 71,false)⟩,⟨some 74,.binOp .eql 3 (.tmp 73) (.const (.int .i64 10)) 3,some (some 71,false)⟩,⟨some 75,.pick (.tmp 71) (.const (.bool true)) (.tmp 74),none⟩]) (.cond (.tmp 75) (.drawn 16 [⟨some 76,.move (.tmp 2),none⟩,⟨some 77,.call ⟨.builtin .append,#[.const (.slice none 0 0),.tmp 76],#[57,57]⟩,none⟩,⟨some 78,.fieldAddr 29 (.tmp 4) 1,none⟩,⟨some 79,.load 9 (.tmp 78),none⟩,⟨some 80,.buildSlice 57 1 #[(0,.tmp 79)],none⟩,⟨some 81,.call ⟨.builtin .append,#[.tmp 77,.tmp 80],#[57,57]⟩,none⟩,⟨some 2,.assign (.tmp 81),none⟩]) .skip)) (.seq (.seq (.reg [⟨some 11,.assign (.const (.int .i64 0)),none⟩]) (.bloop 4 x11_L4)) (.seq (.reg [⟨some 6,.assign (.const (.bool true)),none⟩]) .ret))
def x11_T3 : XC:=.seq (.reg [⟨some 66,.move (.tmp 9),none⟩,⟨some 67,.unOp .not 4 (.tmp 66),none⟩]) (.cond (.tmp 67) (.seq (.reg [⟨some 6,.assign (.const (.bool false)),none⟩]) .ret) .skip)
def x11_L2 : XC:=.seq (.seq (.reg [⟨some 35,.move (.tmp 10),none⟩,⟨some 36,.fieldAddr 25 (.tmp 3) 2,none⟩,⟨some 37,.load 23 (.tmp 36),none⟩,⟨some 38,.call ⟨.builtin .len,#[.tmp 37],#[23]⟩,none⟩,⟨some 39,.binOp .lss 3 (.tmp 35) (.tmp 38) 3,none⟩]) (.cond (.tmp 39) .skip (.exit 2))) (.seq (.block 3 (.drawn 12 [⟨some 42,.move (.tmp 9),none⟩,⟨some 43,.move (.tmp 42),none⟩,⟨some 44,.fieldAddr 25 (.tmp 3) 2,some (some 43,false)⟩,⟨some 45,.load 23 (.tmp 44),some (some 43,false)⟩,⟨some 46,.move (.tmp 10),some (some 43,false)⟩,⟨some 47,.indexAddr 23 (.tmp 45) (.tmp 46),some (some 43,false)⟩,⟨some 48,.fieldAddr 64 (.tmp 47) 0,some (some 43,false)⟩,⟨some 49,.load 9 (.tmp 48),some (some 43,false)⟩,⟨some 50,.fieldAddr 29 (.tmp 4) 1,some (some 43,false)⟩,⟨some 51,.load 9 (.tmp 50),some (some 43,false)⟩,⟨some 52,.binOp .eql 9 (.tmp 49) (.tmp 51) 9,some (some 43,false)⟩,⟨some 53,.move (.tmp 52),some (some 43,false)⟩,⟨some 54,.fieldAddr 25 (.tmp 3) 2,some (some 53,true)⟩,⟨some 55,.load 23 (.tmp 54),some (some 53,true)⟩,⟨some 56,.move (.tmp 10),some (some 53,true)⟩,⟨some 57,.indexAddr 23 (.tmp 55) (.tmp 56),some (some 53,true)⟩,⟨some 58,.fieldAddr 64 (.tmp 57) 1,some (some 53,true)⟩,⟨some 59,.load 3 (.tmp 58),some (some 53,true)⟩,⟨some 60,.fieldAddr 29 (.tmp 4) 2,some (some 53,true)⟩,⟨some 61,.load 26 (.tmp 60),some (some 53,true)⟩,⟨some 62,.call ⟨.builtin .len,#[.tmp 61],#[26]⟩,some (some 53,true)⟩,⟨some 63,.binOp .eql 3 (.tmp 59) (.tmp 62) 3,some (some 53,true)⟩,⟨some 64,.pick (.tmp 53) (.tmp 63) (.const (.bool false)),some (some 43,false)⟩,⟨some 65,.pick (.tmp 43) (.const (.bool true)) (.tmp 64),none⟩,⟨some 9,.assign (.tmp 65),none⟩])) (.reg [⟨some 40,.move (.tmp 10),none⟩,⟨some 41,.binOp .add 3 (.tmp 40) (.const (.int .i64 1)) 3,none⟩,⟨some 10,.assign (.tmp 41),none⟩]))
def x11_T1 : XC:=.seq (.seq (.reg [⟨some 32,.fieldAddr 29 (.tmp 4) 0,none⟩,⟨some 33,.load 3 (.tmp 32),none⟩,⟨some 34,.binOp .eql 3 (.tmp 33) (.const (.int .i64 1)) 3,none⟩]) (.cond (.tmp 34) (.seq (.reg [⟨some 9,.assign (.const (.bool false)),none⟩]) (.seq (.seq (.reg [⟨some 10,.assign (.const (.int .i64 0)),none⟩]) (.bloop 2 x11_L2)) (x11_T3))) .skip)) (x11_T4)
def x11_L0 : XC:=.seq (.seq (.reg [⟨some 15,.move (.tmp 8),none⟩,⟨some 16,.fieldAddr 29 (.tmp 4) 2,none⟩,⟨some 17,.load 26 (.tmp 16),none⟩,⟨some 18,.call ⟨.builtin .len,#[.tmp 17],#[26]⟩,none⟩,⟨some 19,.binOp .lss 3 (.tmp 15) (.tmp 18) 3,none⟩]) (.cond (.tmp 19) .skip (.exit 0))) (.seq (.block 1 (.seq (.drawn 5 [⟨some 22,.load 25 (.tmp 3),none⟩,⟨some 23,.fieldAddr 29 (.tmp 4) 2,none⟩,⟨some 24,.load 26 (.tmp 23),none⟩,⟨some 25,.move (.tmp 8),none⟩,⟨some 26,.indexAddr 26 (.tmp 24) (.tmp 25),none⟩,⟨some 27,.load 61 (.tmp 26),none⟩,⟨some 28,.move (.tmp 2),none⟩,⟨some 29,.move (.tmp 7),none⟩,⟨some 30,.call ⟨.value (.func 20),#[.tmp 22,.tmp 27,.tmp 28,.tmp 29],#[25,61,57,58]⟩,none⟩,⟨some 31,.binOp .lss 3 (.tmp 30) (.const (.int .i64 0)) 3,none⟩]) (.cond (.tmp 31) (.seq (.reg [⟨some 6,.assign (.const (.bool false)),none⟩]) .ret) .skip))) (.reg [⟨some 20,.move (.tmp 8),none⟩,⟨some 21,.binOp .add 3 (.tmp 20) (.const (.int .i64 1)) 3,none⟩,⟨some 8,.assign (.tmp 21),none⟩]))
def x11 : XC:=.seq (.reg [⟨some 3,.box 25 (.tmp 0),none⟩,⟨some 4,.box 29 (.tmp 1),none⟩,⟨some 6,.assign (.const (.bool false)),none⟩]) (.seq (.reg [⟨some 12,.move (.tmp 2),none⟩,⟨some 13,.call ⟨.builtin .len,#[.tmp 12],#[57]⟩,none⟩,⟨some 14,.makeSlice 58 (.tmp 13) (.tmp 13),none⟩,⟨some 7,.assign (.tmp 14),none⟩]) (.seq (.seq (.reg [⟨some 8,.assign (.const (.int .i64 0)),none⟩]) (.bloop 0 x11_L0)) (x11_T1)))
@[simp] theorem x11_s {C e s K} : type_of% (@X_at C e s K _ _ x11_L4.eq_1) ∧ type_of% (@X_at C e s K _ _ x11_T4.eq_1) ∧ type_of% (@X_at C e s K _ _ x11_T3.eq_1) ∧ type_of% (@X_at C e s K _ _ x11_L2.eq_1) ∧ type_of% (@X_at C e s K _ _ x11_T1.eq_1) ∧ type_of% (@X_at C e s K _ _ x11_L0.eq_1) ∧ type_of% (@X_at C e s K _ _ x11.eq_1):=⟨X_at x11_L4.eq_1,X_at x11_T4.eq_1,X_at x11_T3.eq_1,X_at x11_L2.eq_1,X_at x11_T1.eq_1,X_at x11_L0.eq_1,X_at x11.eq_1⟩
def an11 : Ann:=⟨[(5,.mix 8),(12,.mix 21),(16,.tree (.op 0 (.op 2 (.op 3 (.br (.op 1 (.ck 3 (.op 4 (.op 5 (.op 6 .fin))))) (.op 4 (.op 1 (.op 5 (.op 6 .fin))))))))),(20,.mix 7)],[(4,[(2,some 5000,0)],[2,3,4,11],[6]),(2,[],[2,3,4,9,10],[2,3,4,9]),(0,[(7,some 5000,0)],[2,3,4,7,8],[2,3,4,6])],[]⟩
@[simp] theorem an11_a : an11.clsOf 5 = .mix 8 ∧ an11.clsOf 12 = .mix 21 ∧ an11.clsOf 16 = .tree (.op 0 (.op 2 (.op 3 (.br (.op 1 (.ck 3 (.op 4 (.op 5 (.op 6 .fin))))) (.op 4 (.op 1 (.op 5 (.op 6 .fin)))))))) ∧ an11.clsOf 20 = .mix 7 ∧ an11.frzOf 5 = [] ∧ an11.frzOf 12 = [] ∧ an11.frzOf 16 = [] ∧ an11.frzOf 20 = [] ∧ an11.loopOf 4 = ([(2,some 5000,0)],[2,3,4,11],[6]) ∧ an11.loopOf 2 = ([],[2,3,4,9,10],[2,3,4,9]) ∧ an11.loopOf 0 = ([(7,some 5000,0)],[2,3,4,7,8],[2,3,4,6]):=⟨rfl,rfl,rfl,rfl,rfl,rfl,rfl,rfl,rfl,rfl,rfl⟩
theorem fi11 : FI Try.prog 11 (cxA an11) x11 [.tmp 6] Try.f11:=fiA Try.func11 mixed
theorem Meant_ref (n : Int) (h0 : 0 < n) (h8 : n ≤ 8) (F : List Fn) (hF : FunsOk n F) (hnF : (F.map Fn.name).Nodup) (hF10 : F.length ≤ 10) (P : List Pd) (hnP : (P.map Pd.name).Nodup) (hP10 : P.length ≤ 10) (e : Ex) : ∀ (B : List ByteArray) (hB : B.length + (ndE e).length ≤ 1000000),
  CallOK Try.prog 11 [.agg [.int .i64 n,.list (F.map fnRow),.list (P.map pdRow)],.agg (exr e),.list (B.map strRow)] [] (.bool (exK F P [] e B)) []:=by
 induction e using Ex.ind with
 | h e ih=>
  intro B hB
  have he:=exr_eq e
  have hw:=fun w=>WordValue_ref n h0 h8 F hF hnF hF10 P B (List.replicate B.length 0) (by simp) (by omega) (fun v hv=>by rw [List.eq_of_mem_replicate hv];omega) w
  have hwn:=fun w=>wordR_neg h0 h8 hF hnF (ns:=B) (vs:=List.replicate B.length 0) (by simp) (fun v hv=>by rw [List.eq_of_mem_replicate hv];omega) w
  have hZ:=zeros_of B.length
  have hzl : (List.replicate B.length (0 : Int)).length = B.length:=by simp
  generalize List.replicate B.length (0 : Int) = zs at *
  have htk : List.take B.length (zs.map intRow) = zs.map intRow:=List.take_of_length_le (by simp [hzl])
  rw [exK_eq,any_pred hnP]
  obtain ⟨R,hR⟩ : ∃ R,(kwsF F [] B e.words && ((!decide (e.k = 1) || P.any fun f=>decide (f.name = e.nm) && decide (f.ar = (e.words.length : Int))) && exsK F P [] e.kids (bindB e.k e.nm B))) = R:=⟨_,rfl⟩
  have hR2 : ((!decide (e.k = 1) || P.any fun f=>decide (f.name = e.nm) && decide (f.ar = (e.words.length : Int))) && kwsF F [] B e.words && exsK F P [] e.kids (bindB e.k e.nm B)) = R:=by
   rw [← hR,Bool.and_comm (_ || _) (kwsF _ _ _ _),Bool.and_assoc]
  rw [hR2]
  clear hR2
  have hkl:=kids_nd e
  have htk2 : List.take (B.length + 1) (B.map strRow ++ [[PV.str e.nm]]) = (B ++ [e.nm]).map strRow:=by
   rw [List.take_of_length_le (by simp)];simp [strRow]
  -- the kids
  have key4 : ∀ B' R,B' = bindB e.k e.nm B → exsK F P [] e.kids (bindB e.k e.nm B) = R → W (cxA an11 Try.prog 0) 4 x11_L4 (KS.seq ((XC.reg [{ d:=some 6,op:=Op.assign (Operand.const (Value.bool true)),g:=none }]).seq XC.ret) (KS.fin [ResultVar.tmp 6] fun v1 s1=>deref s1 6 v1 = PV.bool R)) [(2,.list (B'.map strRow)),(3,.ptr 0 0 0),(4,.ptr 1 0 0),(11,.int .i64 0)] [.rows 3 [[.int .i64 n,.list (F.map fnRow),.list (P.map pdRow)]],.rows 4 [exr e]]:=by
   intro B' R hB' hR
   rw [← hB'] at hR
   have hBl : B'.length ≤ B.length + 1:=by
    rw [hB',bindB];split
    ·simp
    ·omega
   refine W_of fun Q hQ=>?_
   have main : ∀ k i,i + k = e.kids.length → exsK F P [] (e.kids.drop i) B' = R → Q [(2,.list (B'.map strRow)),(3,.ptr 0 0 0),(4,.ptr 1 0 0),(11,.int .i64 (i : Int))] [.rows 3 [[.int .i64 n,.list (F.map fnRow),.list (P.map pdRow)]],.rows 4 [exr e]]:=by
    intro k
    induction k with
    | zero=>
     intro i hi hR
     rw [List.drop_of_length_le (by omega),exsK] at hR
     dsimp only at hR
     subst hR
     obtain rfl : i = e.kids.length:=by omega
     apply hQ
     clear hQ
     (refine Sg.h ?_;try repeat' ((with_reducible first|refine brA ?_|refine brE fun _=>?_|refine spl ⟨?_,?_⟩<;>intro _)<;>((try simp -implicitDefEqProofs);(try simp -implicitDefEqProofs(disch:=first|assumption|(try simp only[lens]);omega -splitDisjunctions)))))
    | succ k ihk=>
     intro i hi hR
     have hil : i < e.kids.length:=by omega
     rw [List.drop_eq_getElem_cons hil,exsK] at hR
     dsimp only at hR
     have hc:=ih _ (List.getElem_mem hil) B' (by have:=ndE_kid (List.getElem_mem hil);omega)
     have ihk:=ihk (i + 1) (by omega)
     have hi' : (i : Int) < (e.kids.length : Int):=by omega
     generalize hx : e.kids[i] = x at *
     apply hQ
     clear hQ
     cases hb : exK F P [] x B' with
     | true=>
      rw [hb] at hc hR
      rw [Bool.true_and] at hR
      have ihk:=ihk hR
      (refine Sg.h ?_;try repeat' ((first|(with_reducible first|refine brA ?_|refine brE fun _=>?_|refine spl ⟨?_,?_⟩<;>intro _)|refine clo hc ?_)<;>((try simp -implicitDefEqProofs [hi',hil,hx]);(try simp -implicitDefEqProofs(disch:=first|assumption|(try simp only[lens]);omega -splitDisjunctions) [hi',hil,hx]))))
      all_goals first|exact ihk|(refine at2 ihk ?_ ?_<;>simp;done)|(exfalso;first|omega|(simp_all;done)|(simp_all;omega))
     | false=>
      rw [hb] at hc hR
      rw [Bool.false_and] at hR
      subst hR
      (refine Sg.h ?_;try repeat' ((first|(with_reducible first|refine brA ?_|refine brE fun _=>?_|refine spl ⟨?_,?_⟩<;>intro _)|refine clo hc ?_)<;>((try simp -implicitDefEqProofs [hi',hil,hx]);(try simp -implicitDefEqProofs(disch:=first|assumption|(try simp only[lens]);omega -splitDisjunctions) [hi',hil,hx]))))
   all_goals first|exact main e.kids.length 0 (Nat.zero_add _) hR|(refine at2 main e.kids.length 0 (Nat.zero_add _) hR ?_ ?_<;>simp;done)|(exfalso;first|omega|(simp_all;done)|(simp_all;omega))
  refine fi11.op ?_
  (refine Sg.h ?_;try repeat' ((with_reducible first|refine brA ?_|refine brE fun _=>?_|refine spl ⟨?_,?_⟩<;>intro _)<;>((try simp -implicitDefEqProofs [hZ,htk,hzl]);(try simp -implicitDefEqProofs(disch:=first|assumption|(try simp only[lens]);omega -splitDisjunctions) [hZ,htk,hzl]))))
  refine W_of fun Q hQ=>?_
  have main : ∀ k i,i + k = e.words.length → (kwsF F [] B (e.words.drop i) && ((!decide (e.k = 1) || P.any fun f=>decide (f.name = e.nm) && decide (f.ar = (e.words.length : Int))) && exsK F P [] e.kids (bindB e.k e.nm B))) = R → Q [(2,.list (B.map strRow)),(3,.ptr 0 0 0),(4,.ptr 1 0 0),(7,.list (zs.map intRow)),(8,.int .i64 (i : Int))] [.rows 3 [[.int .i64 n,.list (F.map fnRow),.list (P.map pdRow)]],.rows 4 [exr e]]:=by
   intro k
   induction k with
   | zero=>
    intro i hi hR
    obtain rfl : i = e.words.length:=by omega
    rw [List.drop_of_length_le (Nat.le_refl _),kwsF,Bool.true_and] at hR
    apply hQ
    clear hQ
    by_cases hk1 : e.k = 1
    ·rw [decide_eq_true hk1,Bool.not_true,Bool.false_or] at hR
     (refine Sg.h ?_;try repeat' ((with_reducible first|refine brA ?_|refine brE fun _=>?_|refine spl ⟨?_,?_⟩<;>intro _)<;>((try simp -implicitDefEqProofs [hk1]);(try simp -implicitDefEqProofs(disch:=first|assumption|(try simp only[lens]);omega -splitDisjunctions) [hk1]))))
     refine W_of fun Q hQ=>?_
     obtain ⟨c,hc⟩ : ∃ c,(P.any fun f=>decide (f.name = e.nm) && decide (f.ar = (e.words.length : Int))) = c:=⟨_,rfl⟩
     rw [hc] at hR
     have main : ∀ k i acc,i + k = P.length → (acc || (P.drop i).any fun f=>decide (f.name = e.nm) && decide (f.ar = (e.words.length : Int))) = c → Q [(2,.list (B.map strRow)),(3,.ptr 0 0 0),(4,.ptr 1 0 0),(9,.bool acc),(10,.int .i64 (i : Int))] [.rows 3 [[.int .i64 n,.list (F.map fnRow),.list (P.map pdRow)]],.rows 4 [exr e]]:=by
      intro k
      induction k with
      | zero=>
       intro i acc hi hc
       obtain rfl : i = P.length:=by omega
       rw [List.drop_of_length_le (Nat.le_refl _),List.any_nil,Bool.or_false] at hc
       subst hc
       apply hQ
       clear hQ
       cases acc with
       | false=>
        rw [Bool.false_and] at hR
        subst hR
        (refine Sg.h ?_;try repeat' ((with_reducible first|refine brA ?_|refine brE fun _=>?_|refine spl ⟨?_,?_⟩<;>intro _)<;>((try simp -implicitDefEqProofs);(try simp -implicitDefEqProofs(disch:=first|assumption|(try simp only[lens]);omega -splitDisjunctions)))))
       | true=>
        rw [Bool.true_and] at hR
        have key4:=key4 B R (by rw [bindB,if_neg (by omega)]) hR
        (refine Sg.h ?_;try repeat' ((with_reducible first|refine brA ?_|refine brE fun _=>?_|refine spl ⟨?_,?_⟩<;>intro _)<;>((try simp -implicitDefEqProofs [hk1]);(try simp -implicitDefEqProofs(disch:=first|assumption|(try simp only[lens]);omega -splitDisjunctions) [hk1]))))
        exact key4
      | succ k ihk=>
       intro i acc hi hc
       have hil : i < P.length:=by omega
       rw [List.drop_eq_getElem_cons hil,List.any_cons] at hc
       have ihk:=fun acc=>ihk (i + 1) acc (by omega)
       have hi' : (i : Int) < (P.length : Int):=by omega
       generalize hx : P[i] = f at *
       apply hQ
       clear hQ
       cases acc with
       | true=>
        have ihk:=ihk true (by simpa using hc)
        (refine Sg.h ?_;try repeat' ((with_reducible first|refine brA ?_|refine brE fun _=>?_|refine spl ⟨?_,?_⟩<;>intro _)<;>((try simp -implicitDefEqProofs [hi',hil,hx]);(try simp -implicitDefEqProofs(disch:=first|assumption|(try simp only[lens]);omega -splitDisjunctions) [hi',hil,hx]))))
        all_goals first|exact ihk|(refine at2 ihk ?_ ?_<;>simp;done)|(exfalso;first|omega|(simp_all;done)|(simp_all;omega))
       | false=>
        by_cases h1 : f.name = e.nm
        ·by_cases h2 : f.ar = (e.words.length : Int)
         ·have ihk := ihk true (by simpa [h1,h2] using hc)
          (refine Sg.h ?_;try repeat' ((with_reducible first|refine brA ?_|refine brE fun _=>?_|refine spl ⟨?_,?_⟩<;>intro _)<;>((try simp -implicitDefEqProofs [hi',hil,hx,h1,h2]);(try simp -implicitDefEqProofs(disch:=first|assumption|(try simp only[lens]);omega -splitDisjunctions) [hi',hil,hx,h1,h2]))))
          all_goals first|exact ihk|(refine at2 ihk ?_ ?_<;>simp;done)|(exfalso;first|omega|(simp_all;done)|(simp_all;omega))
         ·have ihk := ihk false (by simpa [h1,h2] using hc)
          (refine Sg.h ?_;try repeat' ((with_reducible first|refine brA ?_|refine brE fun _=>?_|refine spl ⟨?_,?_⟩<;>intro _)<;>((try simp -implicitDefEqProofs [hi',hil,hx,h1,h2]);(try simp -implicitDefEqProofs(disch:=first|assumption|(try simp only[lens]);omega -splitDisjunctions) [hi',hil,hx,h1,h2]))))
          all_goals first|exact ihk|(refine at2 ihk ?_ ?_<;>simp;done)|(exfalso;first|omega|(simp_all;done)|(simp_all;omega))
        ·have ihk := ihk false (by simpa [h1] using hc)
         (refine Sg.h ?_;try repeat' ((with_reducible first|refine brA ?_|refine brE fun _=>?_|refine spl ⟨?_,?_⟩<;>intro _)<;>((try simp -implicitDefEqProofs [hi',hil,hx,h1]);(try simp -implicitDefEqProofs(disch:=first|assumption|(try simp only[lens]);omega -splitDisjunctions) [hi',hil,hx,h1]))))
         all_goals first|exact ihk|(refine at2 ihk ?_ ?_<;>simp;done)|(exfalso;first|omega|(simp_all;done)|(simp_all;omega))
     all_goals first|exact main P.length 0 false (Nat.zero_add _) (by simpa using hc)|(refine at2 main P.length 0 false (Nat.zero_add _) (by simpa using hc) ?_ ?_<;>simp;done)|(exfalso;first|omega|(simp_all;done)|(simp_all;omega))
    ·rw [decide_eq_false hk1,Bool.not_false,Bool.true_or,Bool.true_and] at hR
     by_cases hk9 : e.k = 9
     ·have key4 := key4 (B ++ [e.nm]) R (by rw [bindB,if_pos (.inl hk9)]) hR
      (refine Sg.h ?_;try repeat' ((with_reducible first|refine brA ?_|refine brE fun _=>?_|refine spl ⟨?_,?_⟩<;>intro _)<;>((try simp -implicitDefEqProofs [hk9]);(try simp -implicitDefEqProofs(disch:=first|assumption|(try simp only[lens]);omega -splitDisjunctions) [hk9]))))
      rw [htk2]
      exact key4
     ·by_cases hk10 : e.k = 10
      ·have key4 := key4 (B ++ [e.nm]) R (by rw [bindB,if_pos (.inr hk10)]) hR
       (refine Sg.h ?_;try repeat' ((with_reducible first|refine brA ?_|refine brE fun _=>?_|refine spl ⟨?_,?_⟩<;>intro _)<;>((try simp -implicitDefEqProofs [hk1,hk9,hk10]);(try simp -implicitDefEqProofs(disch:=first|assumption|(try simp only[lens]);omega -splitDisjunctions) [hk1,hk9,hk10]))))
       rw [htk2]
       exact key4
      ·have key4 := key4 B R (by rw [bindB,if_neg (by omega)]) hR
       (refine Sg.h ?_;try repeat' ((with_reducible first|refine brA ?_|refine brE fun _=>?_|refine spl ⟨?_,?_⟩<;>intro _)<;>((try simp -implicitDefEqProofs [hk1,hk9,hk10]);(try simp -implicitDefEqProofs(disch:=first|assumption|(try simp only[lens]);omega -splitDisjunctions) [hk1,hk9,hk10]))))
       exact key4
   | succ k ihk=>
    intro i hi hR
    have hil : i < e.words.length:=by omega
    rw [List.drop_eq_getElem_cons hil,kwsF,Bool.and_assoc] at hR
    have hc:=hw e.words[i]
    have hwn:=hwn e.words[i]
    have ihk:=ihk (i + 1) (by omega)
    have hi' : (i : Int) < (e.words.length : Int):=by omega
    generalize hx : e.words[i] = x at *
    apply hQ
    clear hQ
    by_cases hz : wordR n F B zs x < 0
    ·rw [hwn.1 hz,Bool.false_and] at hR
     subst hR
     (refine Sg.h ?_;try repeat' ((first|(with_reducible first|refine brA ?_|refine brE fun _=>?_|refine spl ⟨?_,?_⟩<;>intro _)|refine clo hc ?_)<;>((try simp -implicitDefEqProofs [hi',hil,hx,hz]);(try simp -implicitDefEqProofs(disch:=first|assumption|(try simp only[lens]);omega -splitDisjunctions) [hi',hil,hx,hz]))))
    ·have : kwF F [] B x = true := by
      cases hkw : kwF F [] B x with
      | true=>rfl
      | false=>exact absurd (hwn.2 hkw) hz
     rw [this,Bool.true_and] at hR
     have ihk:=ihk hR
     (refine Sg.h ?_;try repeat' ((first|(with_reducible first|refine brA ?_|refine brE fun _=>?_|refine spl ⟨?_,?_⟩<;>intro _)|refine clo hc ?_)<;>((try simp -implicitDefEqProofs [hi',hil,hx,hz]);(try simp -implicitDefEqProofs(disch:=first|assumption|(try simp only[lens]);omega -splitDisjunctions) [hi',hil,hx,hz]))))
     all_goals first|exact ihk|(refine at2 ihk ?_ ?_<;>simp;done)|(exfalso;first|omega|(simp_all;done)|(simp_all;omega))
  all_goals first|exact main e.words.length 0 (Nat.zero_add _) hR|(refine at2 main e.words.length 0 (Nat.zero_add _) hR ?_ ?_<;>simp;done)|(exfalso;first|omega|(simp_all;done)|(simp_all;omega))
end Go.Proofs.Ytfhakdonenhnbaa
