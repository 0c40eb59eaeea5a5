import Derived.Test.YtfhakdonenhnbaaCTPa
set_option linter.unusedVariables false
set_option linter.unusedSimpArgs false
set_option maxRecDepth 100000
set_option maxHeartbeats 4000000
namespace Go.Proofs.Ytfhakdonenhnbaa
open Go Go.Pv
def x22 : XC:=.seq (.reg [⟨some 4,.alloc 33,none⟩]) (.seq (.reg [⟨some 5,.move (.tmp 0),none⟩,⟨some 6,.move (.tmp 1),none⟩,⟨some 7,.build 33 #[(0,.tmp 5),(1,.tmp 6)],none⟩,⟨none,.store 33 (.tmp 4) (.tmp 7),none⟩]) .ret)
@[simp] theorem x22_s {C e s K} : type_of% (@X_at C e s K _ _ x22.eq_1):=X_at x22.eq_1
def an22 : Ann:=⟨[],[],[]⟩
theorem fi22 : FI Try.prog 22 (cxA an22) x22 [.cell 4 33] Try.f22:=fiA Try.func22 mixed
theorem F_ref (a b : Int) : CallOK Try.prog 22 [.int .i64 a,.int .i64 b] [] (.agg [.int .i64 a,.int .i64 b]) []:=by
 refine fi22.op ?_
 (refine Sg.h ?_;try repeat' ((with_reducible first|refine brA ?_|refine brE fun _=>?_|refine spl ⟨?_,?_⟩<;>intro _)<;> (try simp -implicitDefEqProofs(disch:=first|assumption|(try simp only[lens]);omega -splitDisjunctions))))
def x32_T1 : XC:=.seq (.reg [⟨some 20,.move (.tmp 0),none⟩,⟨some 21,.call ⟨.builtin .len,#[.tmp 20],#[9]⟩,none⟩,⟨some 22,.binOp .gtr 3 (.tmp 21) (.const (.int .i64 0)) 3,none⟩,⟨some 23,.move (.tmp 22),none⟩,⟨some 24,.move (.tmp 0),some (some 23,true)⟩,⟨some 25,.call ⟨.builtin .len,#[.tmp 24],#[9]⟩,some (some 23,true)⟩,⟨some 26,.binOp .lss 3 (.tmp 25) (.const (.int .i64 9)) 3,some (some 23,true)⟩,⟨some 27,.pick (.tmp 23) (.tmp 26) (.const (.bool false)),none⟩,⟨some 2,.assign (.tmp 27),none⟩]) .ret
def x32_L0 : XC:=.seq (.seq (.reg [⟨some 4,.move (.tmp 3),none⟩,⟨some 5,.move (.tmp 0),none⟩,⟨some 6,.call ⟨.builtin .len,#[.tmp 5],#[9]⟩,none⟩,⟨some 7,.binOp .lss 3 (.tmp 4) (.tmp 6) 3,none⟩]) (.cond (.tmp 7) .skip (.exit 0))) (.seq (.block 1 (.seq (.reg [⟨some 10,.move (.tmp 0),none⟩,⟨some 11,.move (.tmp 3),none⟩,⟨some 12,.index 9 (.tmp 10) (.tmp 11),none⟩,⟨some 13,.binOp .lss 5 (.tmp 12) (.const (.int .u8 97)) 5,none⟩,⟨some 14,.move (.tmp 13),none⟩,⟨some 15,.move (.tmp 0),some (some 14,false)⟩,⟨some 16,.move (.tmp 3),some (some 14,false)⟩,⟨some 17,.index 9 (.tmp 15) (.tmp 16),some (some 14,false)⟩,⟨some 18,.binOp .gtr 5 (.tmp 17) (.const (.int .u8 122)) 5,some (some 14,false)⟩,⟨some 19,.pick (.tmp 14) (.const (.bool true)) (.tmp 18),none⟩]) (.cond (.tmp 19) (.seq (.reg [⟨some 2,.assign (.const (.bool false)),none⟩]) .ret) .skip))) (.reg [⟨some 8,.move (.tmp 3),none⟩,⟨some 9,.binOp .add 3 (.tmp 8) (.const (.int .i64 1)) 3,none⟩,⟨some 3,.assign (.tmp 9),none⟩]))
def x32 : XC:=.seq (.reg [⟨some 2,.assign (.const (.bool false)),none⟩]) (.seq (.seq (.reg [⟨some 3,.assign (.const (.int .i64 0)),none⟩]) (.bloop 0 x32_L0)) (x32_T1))
@[simp] theorem x32_s {C e s K} : type_of% (@X_at C e s K _ _ x32_T1.eq_1) ∧ type_of% (@X_at C e s K _ _ x32_L0.eq_1) ∧ type_of% (@X_at C e s K _ _ x32.eq_1):=⟨X_at x32_T1.eq_1,X_at x32_L0.eq_1,X_at x32.eq_1⟩
def an32 : Ann:=⟨[],[(0,[],[0,3],[0,2])],[]⟩
@[simp] theorem an32_a : an32.loopOf 0 = ([],[0,3],[0,2]):=rfl
theorem fi32 : FI Try.prog 32 (cxA an32) x32 [.tmp 2] Try.f32:=fiA Try.func32 mixed
theorem IsName_ref (t : ByteArray) : CallOK Try.prog 32 [.str t] [] (.bool (isNameB t)) []:=by
 refine fi32.op ?_
 (refine Sg.h ?_;try repeat' ((with_reducible first|refine brA ?_|refine brE fun _=>?_|refine spl ⟨?_,?_⟩<;>intro _)<;> (try simp -implicitDefEqProofs(disch:=first|assumption|(try simp only[lens]);omega -splitDisjunctions))))
 refine W_of fun Q hQ=>?_
 have main : ∀ n i,i + n = t.size → (∀ j (h : j < t.size),j < i → letterB t[j] = true) → Q [(0,.str t),(3,.int .i64 (i : Int))] []:=by
  intro n
  induction n with
  | zero=>
   intro i hi hl
   have hall : t.data.toList.all letterB = true:=by
    rw [all_letter];intro j hj;exact hl j hj (by omega)
   apply hQ
   (refine Sg.h ?_;try repeat' ((with_reducible first|refine brA ?_|refine brE fun _=>?_|refine spl ⟨?_,?_⟩<;>intro _)<;> (try simp -implicitDefEqProofs(disch:=first|assumption|(try simp only[lens]);omega -splitDisjunctions))))
   all_goals (rw [Bool.eq_iff_iff];simp [isNameB,hall];omega)
  | succ n ih=>
   intro i hi hl
   have hlt : i < t.size:=by omega
   by_cases hb : letterB t[i] = true
   ·have hb' := hb
    simp only [letterB,decide_eq_true_eq] at hb'
    have ih:=ih (i + 1) (by omega) (fun j hj hji=>by
     by_cases e : j = i
     ·subst e;exact hb
     ·exact hl j hj (by omega))
    apply hQ
    (refine Sg.h ?_;try repeat' ((with_reducible first|refine brA ?_|refine brE fun _=>?_|refine spl ⟨?_,?_⟩<;>intro _)<;> (try simp -implicitDefEqProofs(disch:=first|assumption|(try simp only[lens]);omega -splitDisjunctions))))
    all_goals simpa using ih
   ·have hno : isNameB t = false := by
     have h2 : ¬ t.data.toList.all letterB = true:=by
      rw [all_letter];intro h3;exact hb (h3 i hlt)
     simp [isNameB,h2]
    simp only [letterB,decide_eq_true_eq] at hb
    apply hQ
    (refine Sg.h ?_;try repeat' ((with_reducible first|refine brA ?_|refine brE fun _=>?_|refine spl ⟨?_,?_⟩<;>intro _)<;> (try simp -implicitDefEqProofs(disch:=first|assumption|(try simp only[lens]);omega -splitDisjunctions))))
    all_goals first | (exfalso;have:=hb (by omega);omega;done) | simp_all
 refine at2 (main _ 0 (Nat.zero_add _) (fun j h hj=>by omega)) ?_ ?_ <;> simp
end Go.Proofs.Ytfhakdonenhnbaa
namespace Go.Proofs.Ytfhakdonenhnbaa
open Go Go.Pv
def x31_T1 : XC:=.seq (.reg [⟨some 42,.move (.tmp 0),none⟩,⟨some 43,.call ⟨.builtin .len,#[.tmp 42],#[9]⟩,none⟩,⟨some 44,.binOp .gtr 3 (.tmp 43) (.const (.int .i64 0)) 3,none⟩,⟨some 45,.move (.tmp 44),none⟩,⟨some 46,.move (.tmp 0),some (some 45,true)⟩,⟨some 47,.call ⟨.builtin .len,#[.tmp 46],#[9]⟩,some (some 45,true)⟩,⟨some 48,.binOp .lss 3 (.tmp 47) (.const (.int .i64 9)) 3,some (some 45,true)⟩,⟨some 49,.pick (.tmp 45) (.tmp 48) (.const (.bool false)),none⟩,⟨some 2,.assign (.tmp 49),none⟩]) .ret
def x31_L0 : XC:=.seq (.seq (.reg [⟨some 6,.move (.tmp 3),none⟩,⟨some 7,.move (.tmp 0),none⟩,⟨some 8,.call ⟨.builtin .len,#[.tmp 7],#[9]⟩,none⟩,⟨some 9,.binOp .lss 3 (.tmp 6) (.tmp 8) 3,none⟩]) (.cond (.tmp 9) .skip (.exit 0))) (.seq (.block 1 (.seq (.reg [⟨some 12,.move (.tmp 0),none⟩,⟨some 13,.move (.tmp 3),none⟩,⟨some 14,.index 9 (.tmp 12) (.tmp 13),none⟩,⟨some 15,.binOp .geq 5 (.tmp 14) (.const (.int .u8 65)) 5,none⟩,⟨some 16,.move (.tmp 15),none⟩,⟨some 17,.move (.tmp 0),some (some 16,true)⟩,⟨some 18,.move (.tmp 3),some (some 16,true)⟩,⟨some 19,.index 9 (.tmp 17) (.tmp 18),some (some 16,true)⟩,⟨some 20,.binOp .leq 5 (.tmp 19) (.const (.int .u8 90)) 5,some (some 16,true)⟩,⟨some 21,.pick (.tmp 16) (.tmp 20) (.const (.bool false)),none⟩,⟨some 4,.assign (.tmp 21),none⟩]) (.seq (.reg [⟨some 22,.move (.tmp 0),none⟩,⟨some 23,.move (.tmp 3),none⟩,⟨some 24,.index 9 (.tmp 22) (.tmp 23),none⟩,⟨some 25,.binOp .geq 5 (.tmp 24) (.const (.int .u8 97)) 5,none⟩,⟨some 26,.move (.tmp 25),none⟩,⟨some 27,.move (.tmp 0),some (some 26,true)⟩,⟨some 28,.move (.tmp 3),some (some 26,true)⟩,⟨some 29,.index 9 (.tmp 27) (.tmp 28),some (some 26,true)⟩,⟨some 30,.binOp .leq 5 (.tmp 29) (.const (.int .u8 122)) 5,some (some 26,true)⟩,⟨some 31,.pick (.tmp 26) (.tmp 30) (.const (.bool false)),none⟩,⟨some 5,.assign (.tmp 31),none⟩]) (.seq (.reg [⟨some 32,.move (.tmp 4),none⟩,⟨some 33,.unOp .not 4 (.tmp 32),none⟩,⟨some 34,.move (.tmp 33),none⟩,⟨some 35,.move (.tmp 5),some (some 34,true)⟩,⟨some 36,.unOp .not 4 (.tmp 35),some (some 34,true)⟩,⟨some 37,.move (.tmp 36),some (some 34,true)⟩,⟨some 38,.move (.tmp 3),some (some 37,false)⟩,⟨some 39,.binOp .eql 3 (.tmp 38) (.const (.int .i64 0)) 3,some (some 37,false)⟩,⟨some 40,.pick (.tmp 37) (.const (.bool true)) (.tmp 39),some (some 34,true)⟩,⟨some 41,.pick (.tmp 34) (.tmp 40) (.const (.bool false)),none⟩]) (.cond (.tmp 41) (.seq (.reg [⟨some 2,.assign (.const (.bool false)),none⟩]) .ret) .skip))))) (.reg [⟨some 10,.move (.tmp 3),none⟩,⟨some 11,.binOp .add 3 (.tmp 10) (.const (.int .i64 1)) 3,none⟩,⟨some 3,.assign (.tmp 11),none⟩]))
def x31 : XC:=.seq (.reg [⟨some 2,.assign (.const (.bool false)),none⟩]) (.seq (.seq (.reg [⟨some 3,.assign (.const (.int .i64 0)),none⟩]) (.bloop 0 x31_L0)) (x31_T1))
@[simp] theorem x31_s {C e s K} : type_of% (@X_at C e s K _ _ x31_T1.eq_1) ∧ type_of% (@X_at C e s K _ _ x31_L0.eq_1) ∧ type_of% (@X_at C e s K _ _ x31.eq_1):=⟨X_at x31_T1.eq_1,X_at x31_L0.eq_1,X_at x31.eq_1⟩
def an31 : Ann:=⟨[],[(0,[],[0,3],[0,2])],[]⟩
@[simp] theorem an31_a : an31.loopOf 0 = ([],[0,3],[0,2]):=rfl
theorem fi31 : FI Try.prog 31 (cxA an31) x31 [.tmp 2] Try.f31:=fiA Try.func31 mixed
theorem IsBig_ref (t : ByteArray) : CallOK Try.prog 31 [.str t] [] (.bool (isBigB t)) []:=by
 refine fi31.op ?_
 obtain ⟨R,hR⟩ : ∃ R,isBigB t = R:=⟨_,rfl⟩
 rw [hR]
 (refine Sg.h ?_;try repeat' ((with_reducible first|refine brA ?_|refine brE fun _=>?_|refine spl ⟨?_,?_⟩<;>intro _)<;>((try simp -implicitDefEqProofs);(try simp -implicitDefEqProofs(disch:=first|assumption|(try simp only[lens]);omega -splitDisjunctions)))))
 refine W_of fun Q hQ=>?_
 have main : ∀ n i,i + n = t.size → (decide (1 ≤ t.size ∧ t.size ≤ 8) && (if i = 0 then (t.data.toList.head?.map capB).getD false else true) && (t.data.toList.drop i).all letA) = R → Q [(0,.str t),(3,.int .i64 (i : Int))] []:=by
  intro n
  induction n with
  | zero=>
   intro i hi hR
   obtain rfl : i = t.size:=by omega
   rw [all_end (Nat.le_refl _),Bool.and_true] at hR
   apply hQ
   clear hQ
   by_cases h0 : t.size = 0
   ·rw [decide_eq_false (by omega)] at hR
    subst hR
    have h1 : ¬ (0 : Int) < (t.size : Int):=by omega
    (refine Sg.h ?_;try repeat' ((with_reducible first|refine brA ?_|refine brE fun _=>?_|refine spl ⟨?_,?_⟩<;>intro _)<;>((try simp -implicitDefEqProofs [h1]);(try simp -implicitDefEqProofs(disch:=first|assumption|(try simp only[lens]);omega -splitDisjunctions) [h1]))))
   ·rw [if_neg h0,Bool.and_true] at hR
    have h1 : (0 : Int) < (t.size : Int):=by omega
    by_cases h8 : t.size ≤ 8
    ·rw [decide_eq_true (by omega)] at hR
     subst hR
     have h2 : (t.size : Int) < 9:=by omega
     (refine Sg.h ?_;try repeat' ((with_reducible first|refine brA ?_|refine brE fun _=>?_|refine spl ⟨?_,?_⟩<;>intro _)<;>((try simp -implicitDefEqProofs [h1,h2]);(try simp -implicitDefEqProofs(disch:=first|assumption|(try simp only[lens]);omega -splitDisjunctions) [h1,h2]))))
    ·rw [decide_eq_false (by omega)] at hR
     subst hR
     have h2 : ¬ (t.size : Int) < 9:=by omega
     (refine Sg.h ?_;try repeat' ((with_reducible first|refine brA ?_|refine brE fun _=>?_|refine spl ⟨?_,?_⟩<;>intro _)<;>((try simp -implicitDefEqProofs [h1,h2]);(try simp -implicitDefEqProofs(disch:=first|assumption|(try simp only[lens]);omega -splitDisjunctions) [h1,h2]))))
  | succ n ih=>
   intro i hi hR
   have hlt : i < t.size:=by omega
   have ih:=ih (i + 1) (by omega)
   rw [if_neg (by omega),Bool.and_true] at ih
   rw [all_at hlt] at hR
   have hh : i = 0 → (t.data.toList.head?.map capB).getD false = capB t[i]:=fun h=>by subst h;rw [head_at hlt];rfl
   cases hC : capB t[i] with
   | true=>
    have hL : letA t[i] = true:=by unfold letA;rw [hC,Bool.or_true]
    rw [hL,Bool.true_and] at hR
    have hR : (decide (1 ≤ t.size ∧ t.size ≤ 8) && (t.data.toList.drop (i + 1)).all letA) = R:=by
     rw [← hR]
     by_cases h : i = 0
     ·rw [if_pos h,hh h,hC,Bool.and_true]
     ·rw [if_neg h,Bool.and_true]
    have ih:=ih hR
    simp only [capB,decide_eq_true_eq] at hC
    have g1 : (65 : Int) ≤ (t[i].toNat : Int):=by omega
    have g2 : (t[i].toNat : Int) ≤ 90:=by omega
    have g3 : ¬ (97 : Int) ≤ (t[i].toNat : Int):=by omega
    clear hh hL
    apply hQ
    clear hQ
    (refine Sg.h ?_;try repeat' ((with_reducible first|refine brA ?_|refine brE fun _=>?_|refine spl ⟨?_,?_⟩<;>intro _)<;>((try simp -implicitDefEqProofs [hlt,g1,g2,g3]);(try simp -implicitDefEqProofs(disch:=first|assumption|(try simp only[lens]);omega -splitDisjunctions) [hlt,g1,g2,g3]))))
    all_goals first|exact ih|(refine at2 ih ?_ ?_<;>simp;done)|(exfalso;first|omega|(simp_all;done)|(simp_all;omega))
   | false=>
    have g1 : (65 : Int) ≤ (t[i].toNat : Int) ∧ ¬ (t[i].toNat : Int) ≤ 90 ∨ ¬ (65 : Int) ≤ (t[i].toNat : Int):=by
     simp only [capB,decide_eq_false_iff_not] at hC
     omega
    cases hS : letterB t[i] with
    | true=>
     have hL : letA t[i] = true:=by unfold letA;rw [hS,Bool.true_or]
     simp only [letterB,decide_eq_true_eq] at hS
     have g3 : (97 : Int) ≤ (t[i].toNat : Int):=by omega
     have g4 : (t[i].toNat : Int) ≤ 122:=by omega
     by_cases h : i = 0
     ·rw [if_pos h,hh h,hC,Bool.and_false,Bool.false_and] at hR
      subst hR h
      apply hQ
      clear hQ ih hh
      rcases g1 with ⟨g1,g2⟩ | g1
      ·(refine Sg.h ?_;try repeat' ((with_reducible first|refine brA ?_|refine brE fun _=>?_|refine spl ⟨?_,?_⟩<;>intro _)<;>((try simp -implicitDefEqProofs [hlt,g1,g2,g3,g4]);(try simp -implicitDefEqProofs(disch:=first|assumption|(try simp only[lens]);omega -splitDisjunctions) [hlt,g1,g2,g3,g4]))))
      ·omega
     ·rw [if_neg h,hL,Bool.and_true,Bool.true_and] at hR
      have ih:=ih hR
      have hi0 : ¬ (i : Int) = 0:=by omega
      apply hQ
      clear hQ hh
      rcases g1 with ⟨g1,g2⟩ | g1
      ·(refine Sg.h ?_;try repeat' ((with_reducible first|refine brA ?_|refine brE fun _=>?_|refine spl ⟨?_,?_⟩<;>intro _)<;>((try simp -implicitDefEqProofs [hlt,g1,g2,g3,g4,hi0]); (try simp -implicitDefEqProofs(disch:=first|assumption|(try simp only[lens]);omega -splitDisjunctions) [hlt,g1,g2,g3,g4,hi0]))))
       all_goals first|exact ih|(refine at2 ih ?_ ?_<;>simp;done)|(exfalso;first|omega|(simp_all;done)|(simp_all;omega))
      ·omega
    | false=>
     have hL : letA t[i] = false:=by unfold letA;rw [hS,hC];rfl
     rw [hL,Bool.false_and,Bool.and_false] at hR
     subst hR
     have g3 : (97 : Int) ≤ (t[i].toNat : Int) ∧ ¬ (t[i].toNat : Int) ≤ 122 ∨ ¬ (97 : Int) ≤ (t[i].toNat : Int):=by
      simp only [letterB,decide_eq_false_iff_not] at hS
      omega
     apply hQ
     clear hQ ih hh
     rcases g1 with ⟨g1,g2⟩ | g1
     ·rcases g3 with ⟨g3,g4⟩ | g3
      ·(refine Sg.h ?_;try repeat' ((with_reducible first|refine brA ?_|refine brE fun _=>?_|refine spl ⟨?_,?_⟩<;>intro _)<;>((try simp -implicitDefEqProofs [hlt,g1,g2,g3,g4]);(try simp -implicitDefEqProofs(disch:=first|assumption|(try simp only[lens]);omega -splitDisjunctions) [hlt,g1,g2,g3,g4]))))
      ·(refine Sg.h ?_;try repeat' ((with_reducible first|refine brA ?_|refine brE fun _=>?_|refine spl ⟨?_,?_⟩<;>intro _)<;>((try simp -implicitDefEqProofs [hlt,g1,g2,g3]);(try simp -implicitDefEqProofs(disch:=first|assumption|(try simp only[lens]);omega -splitDisjunctions) [hlt,g1,g2,g3]))))
     ·have g3' : ¬ (97 : Int) ≤ (t[i].toNat : Int) := by omega
      (refine Sg.h ?_;try repeat' ((with_reducible first|refine brA ?_|refine brE fun _=>?_|refine spl ⟨?_,?_⟩<;>intro _)<;>((try simp -implicitDefEqProofs [hlt,g1,g3']);(try simp -implicitDefEqProofs(disch:=first|assumption|(try simp only[lens]);omega -splitDisjunctions) [hlt,g1,g3']))))
 refine at2 (main _ 0 (Nat.zero_add _) (by rw [if_pos rfl,List.drop_zero];exact hR)) ?_ ?_ <;> simp
end Go.Proofs.Ytfhakdonenhnbaa
namespace Go.Proofs.Ytfhakdonenhnbaa
open Go Go.Pv
inductive Nd where
 | e (x : Ex)
 | w (x : Wd)
 deriving Inhabited
def ndr : Nd → List PV
 | .e x=>exr x ++ [.str ⟨#[]⟩,.nilsl,.bool false]
 | .w x=>[.int .i64 0,.str ⟨#[]⟩,.nilsl,.nilsl] ++ wrd x ++ [.bool true]
theorem ndr_e (x : Ex) : ndr (.e x) = [.int .i64 x.k,.str x.nm,.list (x.words.map wrd),.list (x.kids.map exr),.str ⟨#[]⟩,.nilsl,.bool false]:=by rw [ndr,exr_eq];rfl
theorem ndr_w (x : Wd) : ndr (.w x) = [.int .i64 0,.str ⟨#[]⟩,.nilsl,.nilsl,.str x.nm,.list (x.args.map wrd),.bool true]:=by rw [ndr,wrd_eq];rfl
theorem ndr_flat (p : Nd) : (ndr p).all flatV = true:=by
 cases p with
 | e x=>rw [ndr_e];rfl
 | w x=>rw [ndr_w];rfl
instance : FlatRow ndr:=⟨ndr_flat⟩
@[simp] theorem ndr_length (p : Nd) : (ndr p).length = 7:=by
 cases p with
 | e x=>rw [ndr_e];rfl
 | w x=>rw [ndr_w];rfl
@[simp] theorem ndr_isCell (p : Nd) : (∀ x ∈ ndr p,isCell x = true) = True:=by
 cases p with
 | e x=>rw [ndr_e];simp
 | w x=>rw [ndr_w];simp
@[simp] theorem ndr_renm {ρ : List Nat} {n : Nat} {p : Nd} : (ndr p).map (renN ρ n) = ndr p:=map_id_of (fun v=>flat_ren) (ndr_flat p)
@[simp] theorem ndr_derefm {s : Store} {n : Nat} {p : Nd} : (ndr p).map (deref s n) = ndr p:=map_id_of (fun v=>flat_deref) (ndr_flat p)
@[simp] theorem ndr_frz {F : List Nat} {s : Store} {p : Nd} : (ndr p).map (frzV F s) = ndr p:=map_id_of (fun v=>frzV_flat) (ndr_flat p)
@[simp] theorem ndr_up {ρ : List Nat} {n : Nat} {p : Nd} : (ndr p).map (upN ρ n) = ndr p:=map_id_of (fun v=>flat_up) (ndr_flat p)
@[simp] theorem ndr_refs {n : Nat} {p : Nd} : (ndr p).flatMap (refsN n) = []:=by
 cases p with
 | e x=>rw [ndr_e];simp
 | w x=>rw [ndr_w];simp
@[simp] theorem ndr_cat_e (x : Ex) : exr x ++ [PV.str ⟨#[]⟩,.nilsl,.bool false] = ndr (.e x):=rfl
@[simp] theorem ndr_cat_w (x : Wd) : PV.int .i64 0 :: .str ⟨#[]⟩ :: .nilsl :: .nilsl :: (wrd x ++ [.bool true]) = ndr (.w x):=rfl
mutual
def ndW : Wd → List Nd
 | .mk a l=>.w (.mk a l) :: ndWs l
def ndWs : List Wd → List Nd
 | []=>[]
 | w :: r=>ndW w ++ ndWs r
end
theorem ndW_eq (w : Wd) : ndW w = .w w :: ndWs w.args:=by cases w with | mk a l=>rw [ndW];rfl
@[simp] theorem ndWs_nil : ndWs [] = []:=by rw [ndWs]
theorem ndWs_app (a b : List Wd) : ndWs (a ++ b) = ndWs a ++ ndWs b:=by
 induction a with
 | nil=>rw [ndWs];rfl
 | cons x r ih=>rw [List.cons_append,ndWs,ndWs,ih,List.append_assoc]
mutual
def ndE : Ex → List Nd
 | .mk k a ws l=>.e (.mk k a ws l) :: (ndWs ws ++ ndEs l)
def ndEs : List Ex → List Nd
 | []=>[]
 | w :: r=>ndE w ++ ndEs r
end
theorem ndE_eq (x : Ex) : ndE x = .e x :: (ndWs x.words ++ ndEs x.kids):=by cases x with | mk k a ws l=>rw [ndE];rfl
@[simp] theorem ndEs_nil : ndEs [] = []:=by rw [ndEs]
theorem ndEs_app (a b : List Ex) : ndEs (a ++ b) = ndEs a ++ ndEs b:=by
 induction a with
 | nil=>rw [ndEs];rfl
 | cons x r ih=>rw [List.cons_append,ndEs,ndEs,ih,List.append_assoc]
theorem take_snocE {α : Type} {l : List α} {i : Nat} (h : i < l.length) : l.take (i + 1) = l.take i ++ [l[i]]:=by
 rw [List.take_add_one,List.getElem?_eq_getElem h];rfl
theorem take_more {α : Type} {a b : List α} {m n : Nat} (h : a.length + n = m) : (a ++ b).take m = a ++ b.take n:=by
 rw [List.take_append,List.take_of_length_le (by omega),show m - a.length = n by omega]
def x33_T1 : XC:=.seq (.reg [⟨some 39,.move (.tmp 5),none⟩,⟨some 4,.assign (.tmp 39),none⟩]) .ret
def x33_L0 : XC:=.seq (.seq (.reg [⟨some 7,.move (.tmp 6),none⟩,⟨some 8,.move (.tmp 0),none⟩,⟨some 9,.call ⟨.builtin .len,#[.tmp 8],#[26]⟩,none⟩,⟨some 10,.binOp .lss 3 (.tmp 7) (.tmp 9) 3,none⟩,⟨some 11,.move (.tmp 10),none⟩,⟨some 12,.move (.tmp 5),some (some 11,true)⟩,⟨some 13,.call ⟨.builtin .len,#[.tmp 12],#[55]⟩,some (some 11,true)⟩,⟨some 14,.move (.tmp 1),some (some 11,true)⟩,⟨some 15,.binOp .leq 3 (.tmp 13) (.tmp 14) 3,some (some 11,true)⟩,⟨some 16,.pick (.tmp 11) (.tmp 15) (.const (.bool false)),none⟩]) (.cond (.tmp 16) .skip (.exit 0))) (.seq (.block 1 (.seq (.reg [⟨some 19,.move (.tmp 5),none⟩,⟨some 20,.move (.tmp 0),none⟩,⟨some 21,.move (.tmp 6),none⟩,⟨some 22,.indexAddr 26 (.tmp 20) (.tmp 21),none⟩,⟨some 23,.load 61 (.tmp 22),none⟩,⟨some 24,.build 76 #[(1,.tmp 23),(2,.const (.bool true))],none⟩,⟨some 25,.buildSlice 55 1 #[(0,.tmp 24)],none⟩,⟨some 26,.call ⟨.builtin .append,#[.tmp 19,.tmp 25],#[55,55]⟩,none⟩,⟨some 5,.assign (.tmp 26),none⟩]) (.reg [⟨some 27,.move (.tmp 5),none⟩,⟨some 28,.move (.tmp 0),none⟩,⟨some 29,.move (.tmp 6),none⟩,⟨some 30,.indexAddr 26 (.tmp 28) (.tmp 29),none⟩,⟨some 31,.fieldAddr 61 (.tmp 30) 1,none⟩,⟨some 32,.load 26 (.tmp 31),none⟩,⟨some 33,.move (.tmp 1),none⟩,⟨some 34,.move (.tmp 5),none⟩,⟨some 35,.call ⟨.builtin .len,#[.tmp 34],#[55]⟩,none⟩,⟨some 36,.binOp .sub 3 (.tmp 33) (.tmp 35) 3,none⟩,⟨some 37,.call ⟨.value (.func 33),#[.tmp 32,.tmp 36],#[26,3]⟩,none⟩,⟨some 38,.call ⟨.builtin .append,#[.tmp 27,.tmp 37],#[55,55]⟩,none⟩,⟨some 5,.assign (.tmp 38),none⟩]))) (.reg [⟨some 17,.move (.tmp 6),none⟩,⟨some 18,.binOp .add 3 (.tmp 17) (.const (.int .i64 1)) 3,none⟩,⟨some 6,.assign (.tmp 18),none⟩]))
def x33 : XC:=.seq (.reg [⟨some 4,.assign (.const (.slice none 0 0)),none⟩]) (.seq (.reg [⟨some 5,.assign (.const (.slice none 0 0)),none⟩]) (.seq (.seq (.reg [⟨some 6,.assign (.const (.int .i64 0)),none⟩]) (.bloop 0 x33_L0)) (x33_T1)))
@[simp] theorem x33_s {C e s K} : type_of% (@X_at C e s K _ _ x33_T1.eq_1) ∧ type_of% (@X_at C e s K _ _ x33_L0.eq_1) ∧ type_of% (@X_at C e s K _ _ x33.eq_1):=⟨X_at x33_T1.eq_1,X_at x33_L0.eq_1,X_at x33.eq_1⟩
def an33 : Ann:=⟨[],[(0,[(5,none,7)],[0,1,5,6],[5])],[]⟩
@[simp] theorem an33_a : an33.loopOf 0 = ([(5,none,7)],[0,1,5,6],[5]):=rfl
theorem fi33 : FI Try.prog 33 (cxA an33) x33 [.tmp 4] Try.f33:=fiA Try.func33 mixed
theorem nodesOfWords_of (l : List Wd) (ih : ∀ w ∈ l,∀ m : Nat,m ≤ 1000000 → CallOK Try.prog 33 [.list (w.args.map wrd),.int .i64 ((m : Int) - 1)] [] (.list (((ndWs w.args).take m).map ndr)) []) (m : Nat) (hm : m ≤ 1000000) :
  CallOK Try.prog 33 [.list (l.map wrd),.int .i64 ((m : Int) - 1)] [] (.list (((ndWs l).take m).map ndr)) []:=by
 refine fi33.op ?_
 obtain ⟨R,hR⟩ : ∃ R,(ndWs l).take m = R:=⟨_,rfl⟩
 rw [hR]
 (refine Sg.h ?_;try repeat' ((with_reducible first|refine brA ?_|refine brE fun _=>?_|refine spl ⟨?_,?_⟩<;>intro _)<;>((try simp -implicitDefEqProofs);(try simp -implicitDefEqProofs(disch:=first|assumption|(try simp only[lens]);omega -splitDisjunctions)))))
 refine W_of fun Q hQ=>?_
 have main : ∀ n i,i + n = l.length → Q [(0,.list (l.map wrd)),(1,.int .i64 ((m : Int) - 1)),(5,.sl 0 0 ((ndWs (l.take i)).take m).length),(6,.int .i64 (i : Int))] [.rows 7 (((ndWs (l.take i)).take m).map ndr)]:=by
  intro n
  induction n with
  | zero=>
   intro i hi
   obtain rfl : i = l.length:=by omega
   rw [List.take_of_length_le (Nat.le_refl _),hR]
   apply hQ
   clear hQ
   (refine Sg.h ?_;try repeat' ((with_reducible first|refine brA ?_|refine brE fun _=>?_|refine spl ⟨?_,?_⟩<;>intro _)<;>((try simp -implicitDefEqProofs);(try simp -implicitDefEqProofs(disch:=first|assumption|(try simp only[lens]);omega -splitDisjunctions)))))
  | succ n ihn=>
   intro i hi
   have hil : i < l.length:=by omega
   by_cases hO : m ≤ (ndWs (l.take i)).length
   ·have e : (ndWs (l.take i)).take m = R := by
     rw [← hR]
     conv=>rhs;rw [← List.take_append_drop i l,ndWs_app]
     rw [List.take_append_of_le_length hO]
    have hlen : R.length = m:=by rw [← e,List.length_take];omega
    rw [e]
    clear ihn e
    have h1 : ¬ (R.length : Int) ≤ (m : Int) - 1:=by omega
    apply hQ
    clear hQ
    (refine Sg.h ?_;try repeat' ((with_reducible first|refine brA ?_|refine brE fun _=>?_|refine spl ⟨?_,?_⟩<;>intro _)<;>((try simp -implicitDefEqProofs [hil,h1]);(try simp -implicitDefEqProofs(disch:=first|assumption|(try simp only[lens]);omega -splitDisjunctions) [hil,h1]))))
   ·have ihn := ihn (i + 1) (by omega)
    have hc:=ih l[i] (List.getElem_mem hil) (m - ((ndWs (l.take i)).length + 1)) (by omega)
    rw [take_snocE hil,ndWs_app,ndWs,ndWs_nil,List.append_nil,ndW_eq,show ndWs (l.take i) ++ .w l[i] :: ndWs l[i].args = (ndWs (l.take i) ++ [.w l[i]]) ++ ndWs l[i].args by simp,take_more (n:=m - ((ndWs (l.take i)).length + 1)) (by simp;omega)] at ihn
    rw [List.take_of_length_le (by omega)]
    generalize ndWs (l.take i) = A at *
    have hm1 : ((m - (A.length + 1) : Nat) : Int) - 1 = (m : Int) - 1 - ((A.length : Int) + 1):=by omega
    rw [hm1] at hc
    have hBl : ((ndWs l[i].args).take (m - (A.length + 1))).length ≤ 1000000:=by rw [List.length_take];omega
    generalize (ndWs l[i].args).take (m - (A.length + 1)) = B at *
    have h1 : (A.length : Int) ≤ (m : Int) - 1:=by omega
    have h2 : A.length ≤ 1000000:=by omega
    apply hQ
    clear hQ
    have hx:=wrd_eq l[i]
    have ht : ∀ r : List PV,(A.map ndr ++ [r]).take (A.length + 1) = A.map ndr ++ [r]:=fun r=>List.take_of_length_le (by simp)
    (refine Sg.h ?_;try repeat' ((first|(with_reducible first|refine brA ?_|refine brE fun _=>?_|refine spl ⟨?_,?_⟩<;>intro _)|refine clo hc ?_)<;>((try simp -implicitDefEqProofs [hil,h1,hx,ht]);(try simp -implicitDefEqProofs(disch:=first|assumption|(try simp only[lens]);omega -splitDisjunctions) [hil,h1,hx,ht]))))
    refine at2 ihn ?_ ?_
    ·simp
     try omega
    ·simp [ndr_w]
 have h0:=main l.length 0 (Nat.zero_add _)
 simp only [List.take_zero,ndWs_nil,List.take_nil,List.length_nil,List.map_nil] at h0
 exact h0
theorem nodesOfWords_ref (w : Wd) : ∀ m : Nat,m ≤ 1000000 → CallOK Try.prog 33 [.list (w.args.map wrd),.int .i64 ((m : Int) - 1)] [] (.list (((ndWs w.args).take m).map ndr)) []:=by
 induction w using Wd.ind with
 | h w ih=>exact nodesOfWords_of w.args ih
def x19_T1 : XC:=.seq (.reg [⟨some 51,.move (.tmp 5),none⟩,⟨some 4,.assign (.tmp 51),none⟩]) .ret
def x19_L0 : XC:=.seq (.seq (.reg [⟨some 7,.move (.tmp 6),none⟩,⟨some 8,.move (.tmp 0),none⟩,⟨some 9,.call ⟨.builtin .len,#[.tmp 8],#[27]⟩,none⟩,⟨some 10,.binOp .lss 3 (.tmp 7) (.tmp 9) 3,none⟩,⟨some 11,.move (.tmp 10),none⟩,⟨some 12,.move (.tmp 5),some (some 11,true)⟩,⟨some 13,.call ⟨.builtin .len,#[.tmp 12],#[55]⟩,some (some 11,true)⟩,⟨some 14,.move (.tmp 1),some (some 11,true)⟩,⟨some 15,.binOp .leq 3 (.tmp 13) (.tmp 14) 3,some (some 11,true)⟩,⟨some 16,.pick (.tmp 11) (.tmp 15) (.const (.bool false)),none⟩]) (.cond (.tmp 16) .skip (.exit 0))) (.seq (.block 1 (.seq (.reg [⟨some 19,.move (.tmp 5),none⟩,⟨some 20,.move (.tmp 0),none⟩,⟨some 21,.move (.tmp 6),none⟩,⟨some 22,.indexAddr 27 (.tmp 20) (.tmp 21),none⟩,⟨some 23,.load 29 (.tmp 22),none⟩,⟨some 24,.build 76 #[(0,.tmp 23)],none⟩,⟨some 25,.buildSlice 55 1 #[(0,.tmp 24)],none⟩,⟨some 26,.call ⟨.builtin .append,#[.tmp 19,.tmp 25],#[55,55]⟩,none⟩,⟨some 5,.assign (.tmp 26),none⟩]) (.seq (.reg [⟨some 27,.move (.tmp 5),none⟩,⟨some 28,.move (.tmp 0),none⟩,⟨some 29,.move (.tmp 6),none⟩,⟨some 30,.indexAddr 27 (.tmp 28) (.tmp 29),none⟩,⟨some 31,.fieldAddr 29 (.tmp 30) 2,none⟩,⟨some 32,.load 26 (.tmp 31),none⟩,⟨some 33,.move (.tmp 1),none⟩,⟨some 34,.move (.tmp 5),none⟩,⟨some 35,.call ⟨.builtin .len,#[.tmp 34],#[55]⟩,none⟩,⟨some 36,.binOp .sub 3 (.tmp 33) (.tmp 35) 3,none⟩,⟨some 37,.call ⟨.value (.func 33),#[.tmp 32,.tmp 36],#[26,3]⟩,none⟩,⟨some 38,.call ⟨.builtin .append,#[.tmp 27,.tmp 37],#[55,55]⟩,none⟩,⟨some 5,.assign (.tmp 38),none⟩]) (.reg [⟨some 39,.move (.tmp 5),none⟩,⟨some 40,.move (.tmp 0),none⟩,⟨some 41,.move (.tmp 6),none⟩,⟨some 42,.indexAddr 27 (.tmp 40) (.tmp 41),none⟩,⟨some 43,.fieldAddr 29 (.tmp 42) 3,none⟩,⟨some 44,.load 27 (.tmp 43),none⟩,⟨some 45,.move (.tmp 1),none⟩,⟨some 46,.move (.tmp 5),none⟩,⟨some 47,.call ⟨.builtin .len,#[.tmp 46],#[55]⟩,none⟩,⟨some 48,.binOp .sub 3 (.tmp 45) (.tmp 47) 3,none⟩,⟨some 49,.call ⟨.value (.func 19),#[.tmp 44,.tmp 48],#[27,3]⟩,none⟩,⟨some 50,.call ⟨.builtin .append,#[.tmp 39,.tmp 49],#[55,55]⟩,none⟩,⟨some 5,.assign (.tmp 50),none⟩])))) (.reg [⟨some 17,.move (.tmp 6),none⟩,⟨some 18,.binOp .add 3 (.tmp 17) (.const (.int .i64 1)) 3,none⟩,⟨some 6,.assign (.tmp 18),none⟩]))
def x19 : XC:=.seq (.reg [⟨some 4,.assign (.const (.slice none 0 0)),none⟩]) (.seq (.reg [⟨some 5,.assign (.const (.slice none 0 0)),none⟩]) (.seq (.seq (.reg [⟨some 6,.assign (.const (.int .i64 0)),none⟩]) (.bloop 0 x19_L0)) (x19_T1)))
@[simp] theorem x19_s {C e s K} : type_of% (@X_at C e s K _ _ x19_T1.eq_1) ∧ type_of% (@X_at C e s K _ _ x19_L0.eq_1) ∧ type_of% (@X_at C e s K _ _ x19.eq_1):=⟨X_at x19_T1.eq_1,X_at x19_L0.eq_1,X_at x19.eq_1⟩
def an19 : Ann:=⟨[],[(0,[(5,none,7)],[0,1,5,6],[5])],[]⟩
@[simp] theorem an19_a : an19.loopOf 0 = ([(5,none,7)],[0,1,5,6],[5]):=rfl
theorem fi19 : FI Try.prog 19 (cxA an19) x19 [.tmp 4] Try.f19:=fiA Try.func19 mixed
theorem nodesOf_of (l : List Ex) (ih : ∀ w ∈ l,∀ m : Nat,m ≤ 1000000 → CallOK Try.prog 19 [.list (w.kids.map exr),.int .i64 ((m : Int) - 1)] [] (.list (((ndEs w.kids).take m).map ndr)) []) (m : Nat) (hm : m ≤ 1000000) :
  CallOK Try.prog 19 [.list (l.map exr),.int .i64 ((m : Int) - 1)] [] (.list (((ndEs l).take m).map ndr)) []:=by
 refine fi19.op ?_
 obtain ⟨R,hR⟩ : ∃ R,(ndEs l).take m = R:=⟨_,rfl⟩
 rw [hR]
 (refine Sg.h ?_;try repeat' ((with_reducible first|refine brA ?_|refine brE fun _=>?_|refine spl ⟨?_,?_⟩<;>intro _)<;>((try simp -implicitDefEqProofs);(try simp -implicitDefEqProofs(disch:=first|assumption|(try simp only[lens]);omega -splitDisjunctions)))))
 refine W_of fun Q hQ=>?_
 have main : ∀ n i,i + n = l.length → Q [(0,.list (l.map exr)),(1,.int .i64 ((m : Int) - 1)),(5,.sl 0 0 ((ndEs (l.take i)).take m).length),(6,.int .i64 (i : Int))] [.rows 7 (((ndEs (l.take i)).take m).map ndr)]:=by
  intro n
  induction n with
  | zero=>
   intro i hi
   obtain rfl : i = l.length:=by omega
   rw [List.take_of_length_le (Nat.le_refl _),hR]
   apply hQ
   clear hQ
   (refine Sg.h ?_;try repeat' ((with_reducible first|refine brA ?_|refine brE fun _=>?_|refine spl ⟨?_,?_⟩<;>intro _)<;>((try simp -implicitDefEqProofs);(try simp -implicitDefEqProofs(disch:=first|assumption|(try simp only[lens]);omega -splitDisjunctions)))))
  | succ n ihn=>
   intro i hi
   have hil : i < l.length:=by omega
   by_cases hO : m ≤ (ndEs (l.take i)).length
   ·have e : (ndEs (l.take i)).take m = R := by
     rw [← hR]
     conv=>rhs;rw [← List.take_append_drop i l,ndEs_app]
     rw [List.take_append_of_le_length hO]
    have hlen : R.length = m:=by rw [← e,List.length_take];omega
    rw [e]
    clear ihn e
    have h1 : ¬ (R.length : Int) ≤ (m : Int) - 1:=by omega
    apply hQ
    clear hQ
    (refine Sg.h ?_;try repeat' ((with_reducible first|refine brA ?_|refine brE fun _=>?_|refine spl ⟨?_,?_⟩<;>intro _)<;>((try simp -implicitDefEqProofs [hil,h1]);(try simp -implicitDefEqProofs(disch:=first|assumption|(try simp only[lens]);omega -splitDisjunctions) [hil,h1]))))
   ·have ihn := ihn (i + 1) (by omega)
    obtain ⟨x,hxe⟩ : ∃ x,l[i] = x:=⟨_,rfl⟩
    have hw:=nodesOfWords_of x.words (fun w _=>nodesOfWords_ref w) (m - ((ndEs (l.take i)).length + 1)) (by omega)
    have hc:=ih l[i] (List.getElem_mem hil) (m - ((ndEs (l.take i)).length + 1) - ((ndWs x.words).take (m - ((ndEs (l.take i)).length + 1))).length) (by omega)
    have e : (ndEs (l.take (i + 1))).take m = (ndEs (l.take i) ++ [.e x]) ++ (ndWs x.words).take (m - ((ndEs (l.take i)).length + 1)) ++ (ndEs x.kids).take (m - ((ndEs (l.take i)).length + 1) - ((ndWs x.words).take (m - ((ndEs (l.take i)).length + 1))).length):=by
     rw [take_snocE hil,ndEs_app,ndEs,ndEs_nil,List.append_nil,ndE_eq,hxe,show ndEs (l.take i) ++ .e x :: (ndWs x.words ++ ndEs x.kids) = (ndEs (l.take i) ++ [.e x]) ++ (ndWs x.words ++ ndEs x.kids) by simp,take_more (n:=m - ((ndEs (l.take i)).length + 1)) (by simp;omega)]
     rw [List.append_assoc (ndEs (l.take i) ++ [Nd.e x])]
     congr 1
     rw [List.take_append]
     congr 1
     by_cases hq : m - ((ndEs (l.take i)).length + 1) ≤ (ndWs x.words).length
     ·rw [List.length_take,Nat.min_eq_left hq,Nat.sub_self,show m - ((ndEs (l.take i)).length + 1) - (ndWs x.words).length = 0 by omega]
     ·rw [List.length_take,Nat.min_eq_right (by omega)]
    rw [e] at ihn
    rw [List.take_of_length_le (by omega)]
    rw [hxe] at hc
    clear e
    generalize ndEs (l.take i) = A at *
    have hm1 : ((m - (A.length + 1) : Nat) : Int) - 1 = (m : Int) - 1 - ((A.length : Int) + 1):=by omega
    rw [hm1] at hw
    have hBl : ((ndWs x.words).take (m - (A.length + 1))).length ≤ m - (A.length + 1):=by rw [List.length_take];omega
    generalize (ndWs x.words).take (m - (A.length + 1)) = B at *
    have hm2 : ((m - (A.length + 1) - B.length : Nat) : Int) - 1 = (m : Int) - 1 - ((A.length : Int) + 1 + (B.length : Int)):=by omega
    rw [hm2] at hc
    have hCl : ((ndEs x.kids).take (m - (A.length + 1) - B.length)).length ≤ 1000000:=by rw [List.length_take];omega
    generalize (ndEs x.kids).take (m - (A.length + 1) - B.length) = C at *
    have h1 : (A.length : Int) ≤ (m : Int) - 1:=by omega
    have h2 : A.length ≤ 1000000:=by omega
    have h3 : B.length ≤ 1000000:=by omega
    have hx:=exr_eq x
    have ht : ∀ r : List PV,(A.map ndr ++ [r]).take (A.length + 1) = A.map ndr ++ [r]:=fun r=>List.take_of_length_le (by simp)
    apply hQ
    clear hQ
    have ht2 : ∀ r : List PV,(A.map ndr ++ r :: B.map ndr).take (A.length + 1 + B.length) = A.map ndr ++ r :: B.map ndr:=fun r=>List.take_of_length_le (by simp;omega)
    (refine Sg.h ?_;try repeat' ((first|(with_reducible first|refine brA ?_|refine brE fun _=>?_|refine spl ⟨?_,?_⟩<;>intro _)|refine clo hw ?_|refine clo hc ?_)<;>((try simp -implicitDefEqProofs [hil,h1,hx,ht,ht2,hxe]);(try simp -implicitDefEqProofs(disch:=first|assumption|(try simp only[lens]);omega -splitDisjunctions) [hil,h1,hx,ht,ht2,hxe]))))
    refine at2 ihn ?_ ?_
    ·simp
     try omega
    ·simp [ndr_e]
 have h0:=main l.length 0 (Nat.zero_add _)
 simp only [List.take_zero,ndEs_nil,List.take_nil,List.length_nil,List.map_nil] at h0
 exact h0
theorem nodesOf_ref (w : Ex) : ∀ m : Nat,m ≤ 1000000 → CallOK Try.prog 19 [.list (w.kids.map exr),.int .i64 ((m : Int) - 1)] [] (.list (((ndEs w.kids).take m).map ndr)) []:=by
 induction w using Ex.ind with
 | h w ih=>exact nodesOf_of w.kids ih
end Go.Proofs.Ytfhakdonenhnbaa
