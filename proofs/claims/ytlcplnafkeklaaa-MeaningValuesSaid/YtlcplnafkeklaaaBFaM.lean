import Derived.Test.YtlcplnafkeklaaaBFaJ
set_option linter.unusedVariables false
set_option linter.unusedSimpArgs false
set_option maxRecDepth 100000
set_option maxHeartbeats 4000000
namespace Go.Proofs.Ytlcplnafkeklaaa
open Go Go.Pv
inductive Nd where
 | e (x : Ex)
 | w (x : Wd)
 deriving Inhabited
def ndr : Nd → List PV
 | .e x=>exr x ++ [.str ⟨#[]⟩,.nilsl,.bool false]
 | .w x=>[.int .i64 0,.str ⟨#[]⟩,.nilsl,.nilsl] ++ wrd x ++ [.bool true]
theorem ndr_e (x : Ex) : ndr (.e x) = [.int .i64 x.k,.str x.nm,.list (x.words.map wrd),.list (x.kids.map exr),.str ⟨#[]⟩,.nilsl,.bool false]:=by rw [ndr,exr_eq];rfl
theorem ndr_w (x : Wd) : ndr (.w x) = [.int .i64 0,.str ⟨#[]⟩,.nilsl,.nilsl,.str x.nm,.list (x.args.map wrd),.bool true]:=by rw [ndr,wrd_eq];rfl
theorem ndr_flat (p : Nd) : (ndr p).all flatV = true:=by
 cases p with
 | e x=>rw [ndr_e];rfl
 | w x=>rw [ndr_w];rfl
instance : FlatRow ndr:=⟨ndr_flat⟩
@[simp] theorem ndr_length (p : Nd) : (ndr p).length = 7:=by
 cases p with
 | e x=>rw [ndr_e];rfl
 | w x=>rw [ndr_w];rfl
@[simp] theorem ndr_isCell (p : Nd) : (∀ x ∈ ndr p,isCell x = true) = True:=by
 cases p with
 | e x=>rw [ndr_e];simp
 | w x=>rw [ndr_w];simp
@[simp] theorem ndr_renm {ρ : List Nat} {n : Nat} {p : Nd} : (ndr p).map (renN ρ n) = ndr p:=map_id_of (fun v=>flat_ren) (ndr_flat p)
@[simp] theorem ndr_derefm {s : Store} {n : Nat} {p : Nd} : (ndr p).map (deref s n) = ndr p:=map_id_of (fun v=>flat_deref) (ndr_flat p)
@[simp] theorem ndr_frz {F : List Nat} {s : Store} {p : Nd} : (ndr p).map (frzV F s) = ndr p:=map_id_of (fun v=>frzV_flat) (ndr_flat p)
@[simp] theorem ndr_up {ρ : List Nat} {n : Nat} {p : Nd} : (ndr p).map (upN ρ n) = ndr p:=map_id_of (fun v=>flat_up) (ndr_flat p)
@[simp] theorem ndr_refs {n : Nat} {p : Nd} : (ndr p).flatMap (refsN n) = []:=by
 cases p with
 | e x=>rw [ndr_e];simp
 | w x=>rw [ndr_w];simp
@[simp] theorem ndr_cat_e (x : Ex) : exr x ++ [PV.str ⟨#[]⟩,.nilsl,.bool false] = ndr (.e x):=rfl
@[simp] theorem ndr_cat_w (x : Wd) : PV.int .i64 0 :: .str ⟨#[]⟩ :: .nilsl :: .nilsl :: (wrd x ++ [.bool true]) = ndr (.w x):=rfl
mutual
def ndW : Wd → List Nd
 | .mk a l=>.w (.mk a l) :: ndWs l
def ndWs : List Wd → List Nd
 | []=>[]
 | w :: r=>ndW w ++ ndWs r
end
theorem ndW_eq (w : Wd) : ndW w = .w w :: ndWs w.args:=by cases w with | mk a l=>rw [ndW];rfl
@[simp] theorem ndWs_nil : ndWs [] = []:=by rw [ndWs]
theorem ndWs_app (a b : List Wd) : ndWs (a ++ b) = ndWs a ++ ndWs b:=by
 induction a with
 | nil=>rw [ndWs];rfl
 | cons x r ih=>rw [List.cons_append,ndWs,ndWs,ih,List.append_assoc]
mutual
def ndE : Ex → List Nd
 | .mk k a ws l=>.e (.mk k a ws l) :: (ndWs ws ++ ndEs l)
def ndEs : List Ex → List Nd
 | []=>[]
 | w :: r=>ndE w ++ ndEs r
end
theorem ndE_eq (x : Ex) : ndE x = .e x :: (ndWs x.words ++ ndEs x.kids):=by cases x with | mk k a ws l=>rw [ndE];rfl
@[simp] theorem ndEs_nil : ndEs [] = []:=by rw [ndEs]
theorem ndEs_app (a b : List Ex) : ndEs (a ++ b) = ndEs a ++ ndEs b:=by
 induction a with
 | nil=>rw [ndEs];rfl
 | cons x r ih=>rw [List.cons_append,ndEs,ndEs,ih,List.append_assoc]
theorem take_snocE {α : Type} {l : List α} {i : Nat} (h : i < l.length) : l.take (i + 1) = l.take i ++ [l[i]]:=by
 rw [List.take_add_one,List.getElem?_eq_getElem h];rfl
theorem take_more {α : Type} {a b : List α} {m n : Nat} (h : a.length + n = m) : (a ++ b).take m = a ++ b.take n:=by
 rw [List.take_append,List.take_of_length_le (by omega),show m - a.length = n by omega]
def x56_T1 : XC:=.seq (.reg [⟨some 39,.move (.tmp 5),none⟩,⟨some 4,.assign (.tmp 39),none⟩]) .ret
def x56_L0 : XC:=.seq (.seq (.reg [⟨some 7,.move (.tmp 6),none⟩,⟨some 8,.move (.tmp 0),none⟩,⟨some 9,.call ⟨.builtin .len,#[.tmp 8],#[26]⟩,none⟩,⟨some 10,.binOp .lss 3 (.tmp 7) (.tmp 9) 3,none⟩,⟨some 11,.move (.tmp 10),none⟩,⟨some 12,.move (.tmp 5),some (some 11,true)⟩,⟨some 13,.call ⟨.builtin .len,#[.tmp 12],#[72]⟩,some (some 11,true)⟩,⟨some 14,.move (.tmp 1),some (some 11,true)⟩,⟨some 15,.binOp .leq 3 (.tmp 13) (.tmp 14) 3,some (some 11,true)⟩,⟨some 16,.pick (.tmp 11) (.tmp 15) (.const (.bool false)),none⟩]) (.cond (.tmp 16) .skip (.exit 0))) (.seq (.block 1 (.seq (.reg [⟨some 19,.move (.tmp 5),none⟩,⟨some 20,.move (.tmp 0),none⟩,⟨some 21,.move (.tmp 6),none⟩,⟨some 22,.indexAddr 26 (.tmp 20) (.tmp 21),none⟩,⟨some 23,.load 68 (.tmp 22),none⟩,⟨some 24,.build 97 #[(1,.tmp 23),(2,.const (.bool true))],none⟩,⟨some 25,.buildSlice 72 1 #[(0,.tmp 24)],none⟩,⟨some 26,.call ⟨.builtin .append,#[.tmp 19,.tmp 25],#[72,72]⟩,none⟩,⟨some 5,.assign (.tmp 26),none⟩]) (.reg [⟨some 27,.move (.tmp 5),none⟩,⟨some 28,.move (.tmp 0),none⟩,⟨some 29,.move (.tmp 6),none⟩,⟨some 30,.indexAddr 26 (.tmp 28) (.tmp 29),none⟩,⟨some 31,.fieldAddr 68 (.tmp 30) 1,none⟩,⟨some 32,.load 26 (.tmp 31),none⟩,⟨some 33,.move (.tmp 1),none⟩,⟨some 34,.move (.tmp 5),none⟩,⟨some 35,.call ⟨.builtin .len,#[.tmp 34],#[72]⟩,none⟩,⟨some 36,.binOp .sub 3 (.tmp 33) (.tmp 35) 3,none⟩,⟨some 37,.call ⟨.value (.func 56),#[.tmp 32,.tmp 36],#[26,3]⟩,none⟩,⟨some 38,.call ⟨.builtin .append,#[.tmp 27,.tmp 37],#[72,72]⟩,none⟩,⟨some 5,.assign (.tmp 38),none⟩]))) (.reg [⟨some 17,.move (.tmp 6),none⟩,⟨some 18,.binOp .add 3 (.tmp 17) (.const (.int .i64 1)) 3,none⟩,⟨some 6,.assign (.tmp 18),none⟩]))
def x56 : XC:=.seq (.reg [⟨some 4,.assign (.const (.slice none 0 0)),none⟩]) (.seq (.reg [⟨some 5,.assign (.const (.slice none 0 0)),none⟩]) (.seq (.seq (.reg [⟨some 6,.assign (.const (.int .i64 0)),none⟩]) (.bloop 0 x56_L0)) (x56_T1)))
@[simp] theorem x56_s {C e s K} : type_of% (@X_at C e s K _ _ x56_T1.eq_1) ∧ type_of% (@X_at C e s K _ _ x56_L0.eq_1) ∧ type_of% (@X_at C e s K _ _ x56.eq_1):=⟨X_at x56_T1.eq_1,X_at x56_L0.eq_1,X_at x56.eq_1⟩
def an56 : Ann:=⟨[],[(0,[(5,none,7)],[0,1,5,6],[5])],[]⟩
@[simp] theorem an56_a : an56.loopOf 0 = ([(5,none,7)],[0,1,5,6],[5]):=rfl
theorem fi56 : FI Try.prog 56 (cxA an56) x56 [.tmp 4] Try.f56:=fiA Try.func56 mixed
theorem nodesOfWords_of (l : List Wd) (ih : ∀ w ∈ l,∀ m : Nat,m ≤ 1000000 → CallOK Try.prog 56 [.list (w.args.map wrd),.int .i64 ((m : Int) - 1)] [] (.list (((ndWs w.args).take m).map ndr)) []) (m : Nat) (hm : m ≤ 1000000) :
  CallOK Try.prog 56 [.list (l.map wrd),.int .i64 ((m : Int) - 1)] [] (.list (((ndWs l).take m).map ndr)) []:=by
 refine fi56.op ?_
 obtain ⟨R,hR⟩ : ∃ R,(ndWs l).take m = R:=⟨_,rfl⟩
 rw [hR]
 (refine Sg.h ?_;try repeat' ((with_reducible first|refine brA ?_|refine brE fun _=>?_|refine spl ⟨?_,?_⟩<;>intro _)<;>((try simp -implicitDefEqProofs);(try simp -implicitDefEqProofs(disch:=first|assumption|(try simp only[lens]);omega -splitDisjunctions)))))
 refine W_of fun Q hQ=>?_
 have main : ∀ n i,i + n = l.length → Q [(0,.list (l.map wrd)),(1,.int .i64 ((m : Int) - 1)),(5,.sl 0 0 ((ndWs (l.take i)).take m).length),(6,.int .i64 (i : Int))] [.rows 7 (((ndWs (l.take i)).take m).map ndr)]:=by
  intro n
  induction n with
  | zero=>
   intro i hi
   obtain rfl : i = l.length:=by omega
   rw [List.take_of_length_le (Nat.le_refl _),hR]
   apply hQ
   clear hQ
   (refine Sg.h ?_;try repeat' ((with_reducible first|refine brA ?_|refine brE fun _=>?_|refine spl ⟨?_,?_⟩<;>intro _)<;>((try simp -implicitDefEqProofs);(try simp -implicitDefEqProofs(disch:=first|assumption|(try simp only[lens]);omega -splitDisjunctions)))))
  | succ n ihn=>
   intro i hi
   have hil : i < l.length:=by omega
   by_cases hO : m ≤ (ndWs (l.take i)).length
   ·have e : (ndWs (l.take i)).take m = R := by
     rw [← hR]
     conv=>rhs;rw [← List.take_append_drop i l,ndWs_app]
     rw [List.take_append_of_le_length hO]
    have hlen : R.length = m:=by rw [← e,List.length_take];omega
    rw [e]
    clear ihn e
    have h1 : ¬ (R.length : Int) ≤ (m : Int) - 1:=by omega
    apply hQ
    clear hQ
    (refine Sg.h ?_;try repeat' ((with_reducible first|refine brA ?_|refine brE fun _=>?_|refine spl ⟨?_,?_⟩<;>intro _)<;>((try simp -implicitDefEqProofs [hil,h1]);(try simp -implicitDefEqProofs(disch:=first|assumption|(try simp only[lens]);omega -splitDisjunctions) [hil,h1]))))
   ·have ihn := ihn (i + 1) (by omega)
    have hc:=ih l[i] (List.getElem_mem hil) (m - ((ndWs (l.take i)).length + 1)) (by omega)
    rw [take_snocE hil,ndWs_app,ndWs,ndWs_nil,List.append_nil,ndW_eq,show ndWs (l.take i) ++ .w l[i] :: ndWs l[i].args = (ndWs (l.take i) ++ [.w l[i]]) ++ ndWs l[i].args by simp,take_more (n:=m - ((ndWs (l.take i)).length + 1)) (by simp;omega)] at ihn
    rw [List.take_of_length_le (by omega)]
    generalize ndWs (l.take i) = A at *
    have hm1 : ((m - (A.length + 1) : Nat) : Int) - 1 = (m : Int) - 1 - ((A.length : Int) + 1):=by omega
    rw [hm1] at hc
    have hBl : ((ndWs l[i].args).take (m - (A.length + 1))).length ≤ 1000000:=by rw [List.length_take];omega
    generalize (ndWs l[i].args).take (m - (A.length + 1)) = B at *
    have h1 : (A.length : Int) ≤ (m : Int) - 1:=by omega
    have h2 : A.length ≤ 1000000:=by omega
    apply hQ
    clear hQ
    have hx:=wrd_eq l[i]
    have ht : ∀ r : List PV,(A.map ndr ++ [r]).take (A.length + 1) = A.map ndr ++ [r]:=fun r=>List.take_of_length_le (by simp)
    (refine Sg.h ?_;try repeat' ((first|(with_reducible first|refine brA ?_|refine brE fun _=>?_|refine spl ⟨?_,?_⟩<;>intro _)|refine clo hc ?_)<;>((try simp -implicitDefEqProofs [hil,h1,hx,ht]);(try simp -implicitDefEqProofs(disch:=first|assumption|(try simp only[lens]);omega -splitDisjunctions) [hil,h1,hx,ht]))))
    refine at2 ihn ?_ ?_
    ·simp
     try omega
    ·simp [ndr_w]
 have h0:=main l.length 0 (Nat.zero_add _)
 simp only [List.take_zero,ndWs_nil,List.take_nil,List.length_nil,List.map_nil] at h0
 exact h0
theorem nodesOfWords_ref (w : Wd) : ∀ m : Nat,m ≤ 1000000 → CallOK Try.prog 56 [.list (w.args.map wrd),.int .i64 ((m : Int) - 1)] [] (.list (((ndWs w.args).take m).map ndr)) []:=by
 induction w using Wd.ind with
 | h w ih=>exact nodesOfWords_of w.args ih
def x43_T1 : XC:=.seq (.reg [⟨some 51,.move (.tmp 5),none⟩,⟨some 4,.assign (.tmp 51),none⟩]) .ret
def x43_L0 : XC:=.seq (.seq (.reg [⟨some 7,.move (.tmp 6),none⟩,⟨some 8,.move (.tmp 0),none⟩,⟨some 9,.call ⟨.builtin .len,#[.tmp 8],#[27]⟩,none⟩,⟨some 10,.binOp .lss 3 (.tmp 7) (.tmp 9) 3,none⟩,⟨some 11,.move (.tmp 10),none⟩,⟨some 12,.move (.tmp 5),some (some 11,true)⟩,⟨some 13,.call ⟨.builtin .len,#[.tmp 12],#[72]⟩,some (some 11,true)⟩,⟨some 14,.move (.tmp 1),some (some 11,true)⟩,⟨some 15,.binOp .leq 3 (.tmp 13) (.tmp 14) 3,some (some 11,true)⟩,⟨some 16,.pick (.tmp 11) (.tmp 15) (.const (.bool false)),none⟩]) (.cond (.tmp 16) .skip (.exit 0))) (.seq (.block 1 (.seq (.reg [⟨some 19,.move (.tmp 5),none⟩,⟨some 20,.move (.tmp 0),none⟩,⟨some 21,.move (.tmp 6),none⟩,⟨some 22,.indexAddr 27 (.tmp 20) (.tmp 21),none⟩,⟨some 23,.load 29 (.tmp 22),none⟩,⟨some 24,.build 97 #[(0,.tmp 23)],none⟩,⟨some 25,.buildSlice 72 1 #[(0,.tmp 24)],none⟩,⟨some 26,.call ⟨.builtin .append,#[.tmp 19,.tmp 25],#[72,72]⟩,none⟩,⟨some 5,.assign (.tmp 26),none⟩]) (.seq (.reg [⟨some 27,.move (.tmp 5),none⟩,⟨some 28,.move (.tmp 0),none⟩,⟨some 29,.move (.tmp 6),none⟩,⟨some 30,.indexAddr 27 (.tmp 28) (.tmp 29),none⟩,⟨some 31,.fieldAddr 29 (.tmp 30) 2,none⟩,⟨some 32,.load 26 (.tmp 31),none⟩,⟨some 33,.move (.tmp 1),none⟩,⟨some 34,.move (.tmp 5),none⟩,⟨some 35,.call ⟨.builtin .len,#[.tmp 34],#[72]⟩,none⟩,⟨some 36,.binOp .sub 3 (.tmp 33) (.tmp 35) 3,none⟩,⟨some 37,.call ⟨.value (.func 56),#[.tmp 32,.tmp 36],#[26,3]⟩,none⟩,⟨some 38,.call ⟨.builtin .append,#[.tmp 27,.tmp 37],#[72,72]⟩,none⟩,⟨some 5,.assign (.tmp 38),none⟩]) (.reg [⟨some 39,.move (.tmp 5),none⟩,⟨some 40,.move (.tmp 0),none⟩,⟨some 41,.move (.tmp 6),none⟩,⟨some 42,.indexAddr 27 (.tmp 40) (.tmp 41),none⟩,⟨some 43,.fieldAddr 29 (.tmp 42) 3,none⟩,⟨some 44,.load 27 (.tmp 43),none⟩,⟨some 45,.move (.tmp 1),none⟩,⟨some 46,.move (.tmp 5),none⟩,⟨some 47,.call ⟨.builtin .len,#[.tmp 46],#[72]⟩,none⟩,⟨some 48,.binOp .sub 3 (.tmp 45) (.tmp 47) 3,none⟩,⟨some 49,.call ⟨.value (.func 43),#[.tmp 44,.tmp 48],#[27,3]⟩,none⟩,⟨some 50,.call ⟨.builtin .append,#[.tmp 39,.tmp 49],#[72,72]⟩,none⟩,⟨some 5,.assign (.tmp 50),none⟩])))) (.reg [⟨some 17,.move (.tmp 6),none⟩,⟨some 18,.binOp .add 3 (.tmp 17) (.const (.int .i64 1)) 3,none⟩,⟨some 6,.assign (.tmp 18),none⟩]))
def x43 : XC:=.seq (.reg [⟨some 4,.assign (.const (.slice none 0 0)),none⟩]) (.seq (.reg [⟨some 5,.assign (.const (.slice none 0 0)),none⟩]) (.seq (.seq (.reg [⟨some 6,.assign (.const (.int .i64 0)),none⟩]) (.bloop 0 x43_L0)) (x43_T1)))
@[simp] theorem x43_s {C e s K} : type_of% (@X_at C e s K _ _ x43_T1.eq_1) ∧ type_of% (@X_at C e s K _ _ x43_L0.eq_1) ∧ type_of% (@X_at C e s K _ _ x43.eq_1):=⟨X_at x43_T1.eq_1,X_at x43_L0.eq_1,X_at x43.eq_1⟩
def an43 : Ann:=⟨[],[(0,[(5,none,7)],[0,1,5,6],[5])],[]⟩
@[simp] theorem an43_a : an43.loopOf 0 = ([(5,none,7)],[0,1,5,6],[5]):=rfl
theorem fi43 : FI Try.prog 43 (cxA an43) x43 [.tmp 4] Try.f43:=fiA Try.func43 mixed
theorem nodesOf_of (l : List Ex) (ih : ∀ w ∈ l,∀ m : Nat,m ≤ 1000000 → CallOK Try.prog 43 [.list (w.kids.map exr),.int .i64 ((m : Int) - 1)] [] (.list (((ndEs w.kids).take m).map ndr)) []) (m : Nat) (hm : m ≤ 1000000) :
  CallOK Try.prog 43 [.list (l.map exr),.int .i64 ((m : Int) - 1)] [] (.list (((ndEs l).take m).map ndr)) []:=by
 refine fi43.op ?_
 obtain ⟨R,hR⟩ : ∃ R,(ndEs l).take m = R:=⟨_,rfl⟩
 rw [hR]
 (refine Sg.h ?_;try repeat' ((with_reducible first|refine brA ?_|refine brE fun _=>?_|refine spl ⟨?_,?_⟩<;>intro _)<;>((try simp -implicitDefEqProofs);(try simp -implicitDefEqProofs(disch:=first|assumption|(try simp only[lens]);omega -splitDisjunctions)))))
 refine W_of fun Q hQ=>?_
 have main : ∀ n i,i + n = l.length → Q [(0,.list (l.map exr)),(1,.int .i64 ((m : Int) - 1)),(5,.sl 0 0 ((ndEs (l.take i)).take m).length),(6,.int .i64 (i : Int))] [.rows 7 (((ndEs (l.take i)).take m).map ndr)]:=by
  intro n
  induction n with
  | zero=>
   intro i hi
   obtain rfl : i = l.length:=by omega
   rw [List.take_of_length_le (Nat.le_refl _),hR]
   apply hQ
   clear hQ
   (refine Sg.h ?_;try repeat' ((with_reducible first|refine brA ?_|refine brE fun _=>?_|refine spl ⟨?_,?_⟩<;>intro _)<;>((try simp -implicitDefEqProofs);(try simp -implicitDefEqProofs(disch:=first|assumption|(try simp only[lens]);omega -splitDisjunctions)))))
  | succ n ihn=>
   intro i hi
   have hil : i < l.length:=by omega
   by_cases hO : m ≤ (ndEs (l.take i)).length
   ·have e : (ndEs (l.take i)).take m = R := by
     rw [← hR]
     conv=>rhs;rw [← List.take_append_drop i l,ndEs_app]
     rw [List.take_append_of_le_length hO]
    have hlen : R.length = m:=by rw [← e,List.length_take];omega
    rw [e]
    clear ihn e
    have h1 : ¬ (R.length : Int) ≤ (m : Int) - 1:=by omega
    apply hQ
    clear hQ
    (refine Sg.h ?_;try repeat' ((with_reducible first|refine brA ?_|refine brE fun _=>?_|refine spl ⟨?_,?_⟩<;>intro _)<;>((try simp -implicitDefEqProofs [hil,h1]);(try simp -implicitDefEqProofs(disch:=first|assumption|(try simp only[lens]);omega -splitDisjunctions) [hil,h1]))))
   ·have ihn := ihn (i + 1) (by omega)
    obtain ⟨x,hxe⟩ : ∃ x,l[i] = x:=⟨_,rfl⟩
    have hw:=nodesOfWords_of x.words (fun w _=>nodesOfWords_ref w) (m - ((ndEs (l.take i)).length + 1)) (by omega)
    have hc:=ih l[i] (List.getElem_mem hil) (m - ((ndEs (l.take i)).length + 1) - ((ndWs x.words).take (m - ((ndEs (l.take i)).length + 1))).length) (by omega)
    have e : (ndEs (l.take (i + 1))).take m = (ndEs (l.take i) ++ [.e x]) ++ (ndWs x.words).take (m - ((ndEs (l.take i)).length + 1)) ++ (ndEs x.kids).take (m - ((ndEs (l.take i)).length + 1) - ((ndWs x.words).take (m - ((ndEs (l.take i)).length + 1))).length):=by
     rw [take_snocE hil,ndEs_app,ndEs,ndEs_nil,List.append_nil,ndE_eq,hxe,show ndEs (l.take i) ++ .e x :: (ndWs x.words ++ ndEs x.kids) = (ndEs (l.take i) ++ [.e x]) ++ (ndWs x.words ++ ndEs x.kids) by simp,take_more (n:=m - ((ndEs (l.take i)).length + 1)) (by simp;omega)]
     rw [List.append_assoc (ndEs (l.take i) ++ [Nd.e x])]
     congr 1
     rw [List.take_append]
     congr 1
     by_cases hq : m - ((ndEs (l.take i)).length + 1) ≤ (ndWs x.words).length
     ·rw [List.length_take,Nat.min_eq_left hq,Nat.sub_self,show m - ((ndEs (l.take i)).length + 1) - (ndWs x.words).length = 0 by omega]
     ·rw [List.length_take,Nat.min_eq_right (by omega)]
    rw [e] at ihn
    rw [List.take_of_length_le (by omega)]
    rw [hxe] at hc
    clear e
    generalize ndEs (l.take i) = A at *
    have hm1 : ((m - (A.length + 1) : Nat) : Int) - 1 = (m : Int) - 1 - ((A.length : Int) + 1):=by omega
    rw [hm1] at hw
    have hBl : ((ndWs x.words).take (m - (A.length + 1))).length ≤ m - (A.length + 1):=by rw [List.length_take];omega
    generalize (ndWs x.words).take (m - (A.length + 1)) = B at *
    have hm2 : ((m - (A.length + 1) - B.length : Nat) : Int) - 1 = (m : Int) - 1 - ((A.length : Int) + 1 + (B.length : Int)):=by omega
    rw [hm2] at hc
    have hCl : ((ndEs x.kids).take (m - (A.length + 1) - B.length)).length ≤ 1000000:=by rw [List.length_take];omega
    generalize (ndEs x.kids).take (m - (A.length + 1) - B.length) = C at *
    have h1 : (A.length : Int) ≤ (m : Int) - 1:=by omega
    have h2 : A.length ≤ 1000000:=by omega
    have h3 : B.length ≤ 1000000:=by omega
    have hx:=exr_eq x
    have ht : ∀ r : List PV,(A.map ndr ++ [r]).take (A.length + 1) = A.map ndr ++ [r]:=fun r=>List.take_of_length_le (by simp)
    apply hQ
    clear hQ
    have ht2 : ∀ r : List PV,(A.map ndr ++ r :: B.map ndr).take (A.length + 1 + B.length) = A.map ndr ++ r :: B.map ndr:=fun r=>List.take_of_length_le (by simp;omega)
    (refine Sg.h ?_;try repeat' ((first|(with_reducible first|refine brA ?_|refine brE fun _=>?_|refine spl ⟨?_,?_⟩<;>intro _)|refine clo hw ?_|refine clo hc ?_)<;>((try simp -implicitDefEqProofs [hil,h1,hx,ht,ht2,hxe]);(try simp -implicitDefEqProofs(disch:=first|assumption|(try simp only[lens]);omega -splitDisjunctions) [hil,h1,hx,ht,ht2,hxe]))))
    refine at2 ihn ?_ ?_
    ·simp
     try omega
    ·simp [ndr_e]
 have h0:=main l.length 0 (Nat.zero_add _)
 simp only [List.take_zero,ndEs_nil,List.take_nil,List.length_nil,List.map_nil] at h0
 exact h0
theorem nodesOf_ref (w : Ex) : ∀ m : Nat,m ≤ 1000000 → CallOK Try.prog 43 [.list (w.kids.map exr),.int .i64 ((m : Int) - 1)] [] (.list (((ndEs w.kids).take m).map ndr)) []:=by
 induction w using Ex.ind with
 | h w ih=>exact nodesOf_of w.kids ih
end Go.Proofs.Ytlcplnafkeklaaa
