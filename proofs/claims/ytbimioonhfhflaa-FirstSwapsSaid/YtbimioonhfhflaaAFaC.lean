import Derived.Test.YtbimioonhfhflaaAFaB
set_option linter.unusedVariables false
set_option linter.unusedSimpArgs false
set_option maxRecDepth 100000
set_option maxHeartbeats 4000000
namespace Go.Proofs.Ytbimioonhfhflaa
open Go Go.Pv
def mustP (t w : ByteArray) (i : Nat) : RA Unit:=if hp t (bl t i) w = true then .ok ((),bl t i + w.size) else .error (bl t i,bl t i)
theorem hp_len {t w : ByteArray} {i : Nat} (h : hp t i w = true) : i + w.size ≤ t.size:=(of_decide_eq_true h).1
def x114 : XC:=.seq (.reg [⟨some 4,.move (.tmp 0),none⟩,⟨some 5,.move (.tmp 1),none⟩,⟨some 6,.call ⟨.value (.func 82),#[.tmp 4,.tmp 5],#[118,9]⟩,none⟩,⟨some 7,.unOp .not 4 (.tmp 6),none⟩]) (.cond (.tmp 7) (.reg [⟨some 8,.move (.tmp 0),none⟩,⟨some 9,.move (.tmp 0),none⟩,⟨some 10,.nilCheck (.tmp 9),none⟩,⟨some 11,.fieldAddr 120 (.tmp 10) 1,none⟩,⟨some 12,.load 3 (.tmp 11),none⟩,⟨some 13,.call ⟨.value (.func 75),#[.tmp 8,.tmp 12],#[118,3]⟩,none⟩]) .skip)
@[simp] theorem x114_s {C e s K} : type_of% (@X_at C e s K _ _ x114.eq_1):=X_at x114.eq_1
def an114 : Ann:=⟨[],[],[]⟩
theorem fi114 : FI Try.prog 114 (cxA an114) x114 [] Try.f114:=fiA Try.func114 mixed
theorem must_first (t w : ByteArray) (i : Nat) (hs : t.size ≤ 1000000) (hi : i ≤ t.size) (hw : w.size ≤ 1000) : ToldA (fun _=>.tuple []) 114 [.str w] t i (mustP t w i):=by
 have h1:=may_first t i w hs hi hw
 have hb1:=bl_ge t i
 have hb2:=bl_le hi
 have hf:=fail_first t (bl t i) (bl t i)
 unfold mayN at h1
 unfold mustP
 refine told_a fi114 ?_ (fun f j e=>by
  split at e
  ·rename_i hh
   have:=hp_len hh
   cases e;omega
  ·cases e)
 cases hh : hp t (bl t i) w with
 | true=>
  simp only [hh,if_true] at h1 ⊢
  generalize bl t i = b at *
  (refine Sg.h ?_;try repeat' ((with_reducible first|refine brA ?_|refine brE fun _=>?_|refine spl ⟨?_,?_⟩<;>intro _)<;>((try simp -implicitDefEqProofs);(try simp -implicitDefEqProofs(disch:=first|assumption|(try simp only[lens]);omega -splitDisjunctions)))))
  refine CL.sub [0] h1 ?_
  (refine Sg.h ?_;try repeat' ((with_reducible first|refine brA ?_|refine brE fun _=>?_|refine spl ⟨?_,?_⟩<;>intro _)<;>((try simp -implicitDefEqProofs);(try simp -implicitDefEqProofs(disch:=first|assumption|(try simp only[lens]);omega -splitDisjunctions)))))
 | false=>
  simp only [hh,Bool.false_eq_true,if_false] at h1 ⊢
  generalize bl t i = b at *
  (refine Sg.h ?_;try repeat' ((with_reducible first|refine brA ?_|refine brE fun _=>?_|refine spl ⟨?_,?_⟩<;>intro _)<;>((try simp -implicitDefEqProofs);(try simp -implicitDefEqProofs(disch:=first|assumption|(try simp only[lens]);omega -splitDisjunctions)))))
  refine CL.sub [0] h1 ?_
  (refine Sg.h ?_;try repeat' ((with_reducible first|refine brA ?_|refine brE fun _=>?_|refine spl ⟨?_,?_⟩<;>intro _)<;>((try simp -implicitDefEqProofs);(try simp -implicitDefEqProofs(disch:=first|assumption|(try simp only[lens]);omega -splitDisjunctions)))))
  refine CL.psub [0] hf ?_
  (refine Sg.h ?_;try repeat' ((with_reducible first|refine brA ?_|refine brE fun _=>?_|refine spl ⟨?_,?_⟩<;>intro _)<;>((try simp -implicitDefEqProofs);(try simp -implicitDefEqProofs(disch:=first|assumption|(try simp only[lens]);omega -splitDisjunctions)))))
def wordP (t : ByteArray) (pa : Nat → RA (List Wd)) (i : Nat) : RA Wd:=
 if isNameB (ltr t i) = true then .ok (.mk (ltr t i) [],lta t (bl t i)) else if isBigB (ltr t i) = true then (match pa (lta t (bl t i)) with
  | .ok (l,j)=>.ok (.mk (ltr t i) l,j)
  | .error q=>.error q) else .error (bl t i,lta t (bl t i))
def argL (t : ByteArray) (pw : Nat → RA Wd) : Nat → List Wd → Nat → RA (List Wd)
 | 0,l,i=>.error (i,i)
 | n + 1,l,i=>if hp t (bl t i) ⟨#[44]⟩ = true then (match pw (bl t i + 1) with
  | .ok (w,j)=>argL t pw n (l ++ [w]) j
  | .error q=>.error q) else if hp t (bl t i) ⟨#[41]⟩ = true then .ok (l,bl t i + 1) else .error (bl t i,bl t i)
def argsP (t : ByteArray) (pw : Nat → RA Wd) (i : Nat) : RA (List Wd):=
 if hp t (bl t i) ⟨#[40]⟩ = true then (match pw (bl t i + 1) with
  | .ok (w,j)=>argL t pw (t.size + 1) [w] j
  | .error q=>.error q) else .ok ([],bl t i)
theorem argL_le {t : ByteArray} {pw : Nat → RA Wd} {lo : Nat} (h : ∀ i,lo < i → i ≤ t.size → ∀ f j,pw i = .ok (f,j) → i ≤ j ∧ j ≤ t.size) : ∀ n l i,lo ≤ i → i ≤ t.size → ∀ f j,argL t pw n l i = .ok (f,j) → i ≤ j ∧ j ≤ t.size
 | 0,l,i,_,_,f,j,e=>by cases e
 | n + 1,l,i,hl,hi,f,j,e=>by
  have h1:=bl_ge t i
  unfold argL at e
  split at e
  ·rename_i hh
   have h3 : bl t i + 1 ≤ t.size:=hp_len hh
   split at e
   ·rename_i g q hq
    have h4:=h _ (by omega) h3 _ _ hq
    have h5:=argL_le h n _ q (by omega) h4.2 f j e
    omega
   ·cases e
  ·split at e
   ·rename_i hh
    have h3 : bl t i + 1 ≤ t.size:=hp_len hh
    cases e;omega
   ·cases e
theorem argsP_le {t : ByteArray} {pw : Nat → RA Wd} {i : Nat} (hi : i ≤ t.size) (h : ∀ k,i < k → k ≤ t.size → ∀ f j,pw k = .ok (f,j) → k ≤ j ∧ j ≤ t.size) : ∀ f j,argsP t pw i = .ok (f,j) → i ≤ j ∧ j ≤ t.size:=by
 intro f j e
 have h1:=bl_ge t i
 have h2:=bl_le hi
 unfold argsP at e
 split at e
 ·rename_i hh
  have h3 : bl t i + 1 ≤ t.size:=hp_len hh
  split at e
  ·rename_i w q hq
   have h4:=h _ (by omega) h3 _ _ hq
   have h5:=argL_le h _ _ q (by omega) h4.2 f j e
   omega
  ·cases e
 ·cases e;omega
theorem wordP_le {t : ByteArray} {pa : Nat → RA (List Wd)} {i : Nat} (hi : i ≤ t.size) (h : ∀ k,i ≤ k → k ≤ t.size → ∀ f j,pa k = .ok (f,j) → k ≤ j ∧ j ≤ t.size) : ∀ f j,wordP t pa i = .ok (f,j) → i ≤ j ∧ j ≤ t.size:=by
 intro f j e
 have h1:=bl_ge t i
 have h2:=bl_le hi
 have h3:=lta_ge t (bl t i)
 have h4:=lta_le h2
 unfold wordP at e
 split at e
 ·cases e;omega
 split at e
 ·split at e
  ·rename_i l q hq
   have:=h _ (by omega) h4 _ _ hq
   cases e;omega
  ·cases e
 ·cases e
abbrev eW (w : Wd) : PV:=.agg (wrd w)
abbrev eL (l : List Wd) : PV:=.list (l.map wrd)
def x119_T1 : XC:=.seq (.reg [⟨some 17,.move (.tmp 0),none⟩,⟨some 18,.call ⟨.value (.func 114),#[.tmp 17,.const (.string ⟨#[41]⟩)],#[118,9]⟩,none⟩]) (.seq (.reg [⟨some 19,.move (.tmp 3),none⟩,⟨some 2,.assign (.tmp 19),none⟩]) .ret)
def x119_L0 : XC:=.seq (.seq (.reg [⟨some 10,.move (.tmp 0),none⟩,⟨some 11,.call ⟨.value (.func 82),#[.tmp 10,.const (.string ⟨#[44]⟩)],#[118,9]⟩,none⟩]) (.cond (.tmp 11) .skip (.exit 0))) (.block 1 (.reg [⟨some 12,.move (.tmp 3),none⟩,⟨some 13,.move (.tmp 0),none⟩,⟨some 14,.call ⟨.value (.func 115),#[.tmp 13],#[118]⟩,none⟩,⟨some 15,.buildSlice 26 1 #[(0,.tmp 14)],none⟩,⟨some 16,.call ⟨.builtin .append,#[.tmp 12,.tmp 15],#[26,26]⟩,none⟩,⟨some 3,.assign (.tmp 16),none⟩]))
def x119 : XC:=.seq (.reg [⟨some 2,.assign (.const (.slice none 0 0)),none⟩]) (.seq (.seq (.reg [⟨some 4,.move (.tmp 0),none⟩,⟨some 5,.call ⟨.value (.func 82),#[.tmp 4,.const (.string ⟨#[40]⟩)],#[118,9]⟩,none⟩,⟨some 6,.unOp .not 4 (.tmp 5),none⟩]) (.cond (.tmp 6) (.seq (.reg [⟨some 2,.assign (.const (.slice none 0 0)),none⟩]) .ret) .skip)) (.seq (.reg [⟨some 7,.move (.tmp 0),none⟩,⟨some 8,.call ⟨.value (.func 115),#[.tmp 7],#[118]⟩,none⟩,⟨some 9,.buildSlice 26 1 #[(0,.tmp 8)],none⟩,⟨some 3,.assign (.tmp 9),none⟩]) (.seq (.bloop 0 x119_L0) (x119_T1))))
@[simp] theorem x119_s {C e s K} : type_of% (@X_at C e s K _ _ x119_T1.eq_1) ∧ type_of% (@X_at C e s K _ _ x119_L0.eq_1) ∧ type_of% (@X_at C e s K _ _ x119.eq_1):=⟨X_at x119_T1.eq_1,X_at x119_L0.eq_1,X_at x119.eq_1⟩
def an119 : Ann:=⟨[],[(0,[(3,none,2)],[0,3],[0,3])],[]⟩
@[simp] theorem an119_a : an119.loopOf 0 = ([(3,none,2)],[0,3],[0,3]):=rfl
theorem fi119 : FI Try.prog 119 (cxA an119) x119 [.tmp 2] Try.f119:=fiA Try.func119 mixed
theorem args_first (t : ByteArray) (i : Nat) (hs : t.size ≤ 1000000) (hi : i ≤ t.size) (pw : Nat → RA Wd) (hw : ∀ k,i < k → k ≤ t.size → ToldA eW 115 [] t k (pw k)) : ToldA eL 119 [] t i (argsP t pw i):=by
 have hle : ∀ k,i < k → k ≤ t.size → ∀ f j,pw k = .ok (f,j) → k ≤ j ∧ j ≤ t.size:=fun k h1 h2 f j e=>by
  have:=hw k h1 h2;rw [e] at this;exact this.2
 refine told_a fi119 ?_ (argsP_le hi hle)
 have hmay:=may_first t i ⟨#[40]⟩ hs hi (by decide)
 have hb1:=bl_ge t i
 unfold mayN at hmay
 unfold argsP
 cases hh : hp t (bl t i) ⟨#[40]⟩ with
 | false=>
  simp only [hh,Bool.false_eq_true,if_false] at hmay ⊢
  generalize bl t i = b at *
  (refine Sg.h ?_;try repeat' ((with_reducible first|refine brA ?_|refine brE fun _=>?_|refine spl ⟨?_,?_⟩<;>intro _)<;>((try simp -implicitDefEqProofs);(try simp -implicitDefEqProofs(disch:=first|assumption|(try simp only[lens]);omega -splitDisjunctions)))))
  refine CL.sub [0] hmay ?_
  (refine Sg.h ?_;try repeat' ((with_reducible first|refine brA ?_|refine brE fun _=>?_|refine spl ⟨?_,?_⟩<;>intro _)<;>((try simp -implicitDefEqProofs);(try simp -implicitDefEqProofs(disch:=first|assumption|(try simp only[lens]);omega -splitDisjunctions)))))
 | true=>
  have hlt : bl t i + 1 ≤ t.size:=hp_len hh
  have h1:=hw (bl t i + 1) (by omega) hlt
  simp only [hh,if_true] at hmay ⊢
  change CallOK _ _ _ _ _ [rd t (bl t i + 1)] at hmay
  have hge : i < bl t i + 1:=by omega
  generalize bl t i + 1 = k1 at *
  cases hp1 : pw k1 with
  | error q=>
   obtain ⟨q,q2⟩:=q
   rw [hp1] at h1
   simp only [ToldA] at h1
   (refine Sg.h ?_;try repeat' ((with_reducible first|refine brA ?_|refine brE fun _=>?_|refine spl ⟨?_,?_⟩<;>intro _)<;>((try simp -implicitDefEqProofs);(try simp -implicitDefEqProofs(disch:=first|assumption|(try simp only[lens]);omega -splitDisjunctions)))))
   refine CL.sub [0] hmay ?_
   (refine Sg.h ?_;try repeat' ((with_reducible first|refine brA ?_|refine brE fun _=>?_|refine spl ⟨?_,?_⟩<;>intro _)<;>((try simp -implicitDefEqProofs);(try simp -implicitDefEqProofs(disch:=first|assumption|(try simp only[lens]);omega -splitDisjunctions)))))
   refine CL.psub [0] h1 ?_
   (refine Sg.h ?_;try repeat' ((with_reducible first|refine brA ?_|refine brE fun _=>?_|refine spl ⟨?_,?_⟩<;>intro _)<;>((try simp -implicitDefEqProofs);(try simp -implicitDefEqProofs(disch:=first|assumption|(try simp only[lens]);omega -splitDisjunctions)))))
  | ok r=>
   obtain ⟨w0,j0⟩:=r
   rw [hp1] at h1
   obtain ⟨h1,h2,h3⟩:=h1
   (refine Sg.h ?_;try repeat' ((with_reducible first|refine brA ?_|refine brE fun _=>?_|refine spl ⟨?_,?_⟩<;>intro _)<;>((try simp -implicitDefEqProofs);(try simp -implicitDefEqProofs(disch:=first|assumption|(try simp only[lens]);omega -splitDisjunctions)))))
   refine CL.sub [0] hmay ?_
   (refine Sg.h ?_;try repeat' ((with_reducible first|refine brA ?_|refine brE fun _=>?_|refine spl ⟨?_,?_⟩<;>intro _)<;>((try simp -implicitDefEqProofs);(try simp -implicitDefEqProofs(disch:=first|assumption|(try simp only[lens]);omega -splitDisjunctions)))))
   refine CL.sub [0] h1 ?_
   (refine Sg.h ?_;try repeat' ((with_reducible first|refine brA ?_|refine brE fun _=>?_|refine spl ⟨?_,?_⟩<;>intro _)<;>((try simp -implicitDefEqProofs);(try simp -implicitDefEqProofs(disch:=first|assumption|(try simp only[lens]);omega -splitDisjunctions)))))
   refine W_of fun Q hQ=>?_
   obtain ⟨R,hR⟩ : ∃ R,argL t pw (t.size + 1) [w0] j0 = R:=⟨_,rfl⟩
   rw [hR] at hQ
   have main : ∀ n l k,j0 ≤ k → l.length ≤ k → k ≤ t.size → t.size - k < n → argL t pw n l k = R → Q [(0,.ptr 0 0 0),(3,.sl 1 0 l.length)] [rd t k,.rows 2 (l.map wrd)]:=by
    intro n
    induction n with
    | zero=>intro l k _ _ _ h;omega
    | succ n ih=>
     intro l k hjk hlk hk hn1 hR
     have hmay:=may_first t k ⟨#[44]⟩ hs hk (by decide)
     have hmust:=must_first t ⟨#[41]⟩ (bl t k) hs (bl_le hk) (by decide)
     have hb1:=bl_ge t k
     unfold mayN at hmay
     unfold mustP at hmust
     rw [bl_bl] at hmust
     unfold argL at hR
     cases hh : hp t (bl t k) ⟨#[44]⟩ with
     | false=>
      rw [hh] at hmay hR
      simp only [Bool.false_eq_true,if_false] at hmay hR
      cases hh2 : hp t (bl t k) ⟨#[41]⟩ with
      | true=>
       rw [hh2,if_pos rfl] at hR hmust
       subst hR
       obtain ⟨hmust,_⟩:=hmust
       change CallOK _ _ _ _ _ [rd t (bl t k + 1)] at hmust
       generalize bl t k + 1 = k2 at *
       generalize bl t k = k1 at *
       apply hQ
       clear hQ ih
       (refine Sg.h ?_;try repeat' ((with_reducible first|refine brA ?_|refine brE fun _=>?_|refine spl ⟨?_,?_⟩<;>intro _)<;>((try simp -implicitDefEqProofs);(try simp -implicitDefEqProofs(disch:=first|assumption|(try simp only[lens]);omega -splitDisjunctions)))))
       refine CL.sub [0] hmay ?_
       (refine Sg.h ?_;try repeat' ((with_reducible first|refine brA ?_|refine brE fun _=>?_|refine spl ⟨?_,?_⟩<;>intro _)<;>((try simp -implicitDefEqProofs);(try simp -implicitDefEqProofs(disch:=first|assumption|(try simp only[lens]);omega -splitDisjunctions)))))
       refine CL.giv [1] ?_
       refine CL.sub [0] hmust ?_
       (refine Sg.h ?_;try repeat' ((with_reducible first|refine brA ?_|refine brE fun _=>?_|refine spl ⟨?_,?_⟩<;>intro _)<;>((try simp -implicitDefEqProofs);(try simp -implicitDefEqProofs(disch:=first|assumption|(try simp only[lens]);omega -splitDisjunctions)))))
      | false=>
       rw [hh2,if_neg (by decide)] at hR hmust
       subst hR
       simp only [ToldA] at hmust
       generalize bl t k = k1 at *
       apply hQ
       clear hQ ih
       (refine Sg.h ?_;try repeat' ((with_reducible first|refine brA ?_|refine brE fun _=>?_|refine spl ⟨?_,?_⟩<;>intro _)<;>((try simp -implicitDefEqProofs);(try simp -implicitDefEqProofs(disch:=first|assumption|(try simp only[lens]);omega -splitDisjunctions)))))
       refine CL.sub [0] hmay ?_
       (refine Sg.h ?_;try repeat' ((with_reducible first|refine brA ?_|refine brE fun _=>?_|refine spl ⟨?_,?_⟩<;>intro _)<;>((try simp -implicitDefEqProofs);(try simp -implicitDefEqProofs(disch:=first|assumption|(try simp only[lens]);omega -splitDisjunctions)))))
       refine CL.psub [0] hmust ?_
       (refine Sg.h ?_;try repeat' ((with_reducible first|refine brA ?_|refine brE fun _=>?_|refine spl ⟨?_,?_⟩<;>intro _)<;>((try simp -implicitDefEqProofs);(try simp -implicitDefEqProofs(disch:=first|assumption|(try simp only[lens]);omega -splitDisjunctions)))))
     | true=>
      have hlt : bl t k + 1 ≤ t.size:=hp_len hh
      rw [hh] at hmay hR
      simp only [if_true] at hmay hR
      have h4:=hw (bl t k + 1) (by omega) hlt
      change CallOK _ _ _ _ _ [rd t (bl t k + 1)] at hmay
      have hge : k + 1 ≤ bl t k + 1:=by omega
      clear hmust
      generalize bl t k + 1 = k1 at *
      cases hp1 : pw k1 with
      | error q=>
       obtain ⟨q,q2⟩:=q
       rw [hp1] at h4 hR
       simp only [ToldA] at h4 hR
       subst hR
       apply hQ
       clear hQ ih
       (refine Sg.h ?_;try repeat' ((with_reducible first|refine brA ?_|refine brE fun _=>?_|refine spl ⟨?_,?_⟩<;>intro _)<;>((try simp -implicitDefEqProofs);(try simp -implicitDefEqProofs(disch:=first|assumption|(try simp only[lens]);omega -splitDisjunctions)))))
       refine CL.sub [0] hmay ?_
       (refine Sg.h ?_;try repeat' ((with_reducible first|refine brA ?_|refine brE fun _=>?_|refine spl ⟨?_,?_⟩<;>intro _)<;>((try simp -implicitDefEqProofs);(try simp -implicitDefEqProofs(disch:=first|assumption|(try simp only[lens]);omega -splitDisjunctions)))))
       refine CL.psub [0] h4 ?_
       (refine Sg.h ?_;try repeat' ((with_reducible first|refine brA ?_|refine brE fun _=>?_|refine spl ⟨?_,?_⟩<;>intro _)<;>((try simp -implicitDefEqProofs);(try simp -implicitDefEqProofs(disch:=first|assumption|(try simp only[lens]);omega -splitDisjunctions)))))
      | ok r=>
       obtain ⟨g,j1⟩:=r
       rw [hp1] at h4 hR
       obtain ⟨h4,h5,h6⟩:=h4
       have ih:=ih _ j1 (by omega) (by simp;omega) h6 (by omega) hR
       apply hQ
       clear hQ
       (refine Sg.h ?_;try repeat' ((with_reducible first|refine brA ?_|refine brE fun _=>?_|refine spl ⟨?_,?_⟩<;>intro _)<;>((try simp -implicitDefEqProofs);(try simp -implicitDefEqProofs(disch:=first|assumption|(try simp only[lens]);omega -splitDisjunctions)))))
       refine CL.sub [0] hmay ?_
       (refine Sg.h ?_;try repeat' ((with_reducible first|refine brA ?_|refine brE fun _=>?_|refine spl ⟨?_,?_⟩<;>intro _)<;>((try simp -implicitDefEqProofs);(try simp -implicitDefEqProofs(disch:=first|assumption|(try simp only[lens]);omega -splitDisjunctions)))))
       refine CL.sub [0] h4 ?_
       (refine Sg.h ?_;try repeat' ((with_reducible first|refine brA ?_|refine brE fun _=>?_|refine spl ⟨?_,?_⟩<;>intro _)<;>((try simp -implicitDefEqProofs);(try simp -implicitDefEqProofs(disch:=first|assumption|(try simp only[lens]);omega -splitDisjunctions)))))
       all_goals first|exact ih|(refine at2 ih ?_ ?_<;>simp;done)|(exfalso;first|omega|(simp_all;done)|(simp_all;omega))
   all_goals first|exact main _ [w0] j0 (Nat.le_refl _) (by simp;omega) h3 (by omega) hR|(refine at2 main _ [w0] j0 (Nat.le_refl _) (by simp;omega) h3 (by omega) hR ?_ ?_<;>simp;done)|(exfalso;first|omega|(simp_all;done)|(simp_all;omega))
def x115 : XC:=.seq (.reg [⟨some 2,.alloc 31,none⟩]) (.seq (.reg [⟨some 6,.move (.tmp 0),none⟩,⟨some 7,.call ⟨.value (.func 118),#[.tmp 6],#[118]⟩,none⟩,⟨some 5,.move (.tmp 7),none⟩,⟨some 8,.extract (.tmp 5) 0,none⟩,⟨some 9,.extract (.tmp 5) 1,none⟩,⟨some 3,.assign (.tmp 8),none⟩,⟨some 4,.assign (.tmp 9),none⟩]) (.seq (.seq (.reg [⟨some 10,.move (.tmp 3),none⟩,⟨some 11,.call ⟨.value (.func 24),#[.tmp 10],#[9]⟩,none⟩]) (.cond (.tmp 11) (.seq (.reg [⟨some 12,.move (.tmp 3),none⟩,⟨some 13,.build 31 #[(0,.tmp 12)],none⟩,⟨none,.store 31 (.tmp 2) (.tmp 13),none⟩]) .ret) .skip)) (.seq (.seq (.reg [⟨some 14,.move (.tmp 3),none⟩,⟨some 15,.call ⟨.value (.func 47),#[.tmp 14],#[9]⟩,none⟩,⟨some 16,.unOp .not 4 (.tmp 15),none⟩]) (.cond (.tmp 16) (.reg [⟨some 17,.move (.tmp 0),none⟩,⟨some 18,.move (.tmp 4),none⟩,⟨some 19,.call ⟨.value (.func 75),#[.tmp 17,.tmp 18],#[118,3]⟩,none⟩]) .skip)) (.seq (.reg [⟨some 20,.move (.tmp 3),none⟩,⟨some 21,.move (.tmp 0),none⟩,⟨some 22,.call ⟨.value (.func 119),#[.tmp 21],#[118]⟩,none⟩,⟨some 23,.build 31 #[(0,.tmp 20),(1,.tmp 22)],none⟩,⟨none,.store 31 (.tmp 2) (.tmp 23),none⟩]) .ret))))
@[simp] theorem x115_s {C e s K} : type_of% (@X_at C e s K _ _ x115.eq_1):=X_at x115.eq_1
def an115 : Ann:=⟨[],[],[]⟩
theorem fi115 : FI Try.prog 115 (cxA an115) x115 [.cell 2 31] Try.f115:=fiA Try.func115 mixed
theorem word_first (t : ByteArray) (i : Nat) (hs : t.size ≤ 1000000) (hi : i ≤ t.size) (pa : Nat → RA (List Wd)) (ha : ∀ k,i ≤ k → k ≤ t.size → ToldA eL 119 [] t k (pa k)) : ToldA eW 115 [] t i (wordP t pa i):=by
 have hle : ∀ k,i ≤ k → k ≤ t.size → ∀ f j,pa k = .ok (f,j) → k ≤ j ∧ j ≤ t.size:=fun k h1 h2 f j e=>by
  have:=ha k h1 h2;rw [e] at this;exact this.2
 refine told_a fi115 ?_ (wordP_le hi hle)
 have h1:=letters_first t i hs hi
 have hb1:=bl_ge t i
 have hb2:=bl_le hi
 have hb3:=lta_ge t (bl t i)
 have hb4:=lta_le hb2
 have h2:=isName_formula (ltr t i) []
 have h3:=IsBig_first (ltr t i)
 have hf:=fail_first t (lta t (bl t i)) (bl t i)
 have h4:=ha (lta t (bl t i)) (by omega) hb4
 unfold wordP
 generalize ltr t i = w at *
 generalize lta t (bl t i) = k at *
 generalize bl t i = b at *
 cases hn : isNameB w with
 | true=>
  rw [hn] at h2
  rw [if_pos rfl]
  (refine Sg.h ?_;try repeat' ((with_reducible first|refine brA ?_|refine brE fun _=>?_|refine spl ⟨?_,?_⟩<;>intro _)<;>((try simp -implicitDefEqProofs);(try simp -implicitDefEqProofs(disch:=first|assumption|(try simp only[lens]);omega -splitDisjunctions)))))
  refine CL.sub [0] h1 ?_
  (refine Sg.h ?_;try repeat' ((first|(with_reducible first|refine brA ?_|refine brE fun _=>?_|refine spl ⟨?_,?_⟩<;>intro _)|refine clo h2 ?_)<;>((try simp -implicitDefEqProofs);(try simp -implicitDefEqProofs(disch:=first|assumption|(try simp only[lens]);omega -splitDisjunctions)))))
  all_goals (rw [wrd_eq];rfl)
 | false=>
  rw [hn] at h2
  rw [if_neg (by decide)]
  cases hb : isBigB w with
  | false=>
   rw [hb] at h3
   rw [if_neg (by decide)]
   (refine Sg.h ?_;try repeat' ((with_reducible first|refine brA ?_|refine brE fun _=>?_|refine spl ⟨?_,?_⟩<;>intro _)<;>((try simp -implicitDefEqProofs);(try simp -implicitDefEqProofs(disch:=first|assumption|(try simp only[lens]);omega -splitDisjunctions)))))
   refine CL.sub [0] h1 ?_
   (refine Sg.h ?_;try repeat' ((first|(with_reducible first|refine brA ?_|refine brE fun _=>?_|refine spl ⟨?_,?_⟩<;>intro _)|refine clo h2 ?_|refine clo h3 ?_)<;>((try simp -implicitDefEqProofs);(try simp -implicitDefEqProofs(disch:=first|assumption|(try simp only[lens]);omega -splitDisjunctions)))))
   refine CL.psub [0] hf ?_
   (refine Sg.h ?_;try repeat' ((with_reducible first|refine brA ?_|refine brE fun _=>?_|refine spl ⟨?_,?_⟩<;>intro _)<;>((try simp -implicitDefEqProofs);(try simp -implicitDefEqProofs(disch:=first|assumption|(try simp only[lens]);omega -splitDisjunctions)))))
  | true=>
   rw [hb] at h3
   rw [if_pos rfl]
   cases hpa : pa k with
   | error q=>
    obtain ⟨q,q2⟩:=q
    rw [hpa] at h4
    simp only [ToldA] at h4
    (refine Sg.h ?_;try repeat' ((with_reducible first|refine brA ?_|refine brE fun _=>?_|refine spl ⟨?_,?_⟩<;>intro _)<;>((try simp -implicitDefEqProofs);(try simp -implicitDefEqProofs(disch:=first|assumption|(try simp only[lens]);omega -splitDisjunctions)))))
    refine CL.sub [0] h1 ?_
    (refine Sg.h ?_;try repeat' ((first|(with_reducible first|refine brA ?_|refine brE fun _=>?_|refine spl ⟨?_,?_⟩<;>intro _)|refine clo h2 ?_|refine clo h3 ?_)<;>((try simp -implicitDefEqProofs);(try simp -implicitDefEqProofs(disch:=first|assumption|(try simp only[lens]);omega -splitDisjunctions)))))
    refine CL.psub [0] h4 ?_
    (refine Sg.h ?_;try repeat' ((with_reducible first|refine brA ?_|refine brE fun _=>?_|refine spl ⟨?_,?_⟩<;>intro _)<;>((try simp -implicitDefEqProofs);(try simp -implicitDefEqProofs(disch:=first|assumption|(try simp only[lens]);omega -splitDisjunctions)))))
   | ok r=>
    obtain ⟨l,j⟩:=r
    rw [hpa] at h4
    obtain ⟨h4,h5,h6⟩:=h4
    (refine Sg.h ?_;try repeat' ((with_reducible first|refine brA ?_|refine brE fun _=>?_|refine spl ⟨?_,?_⟩<;>intro _)<;>((try simp -implicitDefEqProofs);(try simp -implicitDefEqProofs(disch:=first|assumption|(try simp only[lens]);omega -splitDisjunctions)))))
    refine CL.sub [0] h1 ?_
    (refine Sg.h ?_;try repeat' ((first|(with_reducible first|refine brA ?_|refine brE fun _=>?_|refine spl ⟨?_,?_⟩<;>intro _)|refine clo h2 ?_|refine clo h3 ?_)<;>((try simp -implicitDefEqProofs);(try simp -implicitDefEqProofs(disch:=first|assumption|(try simp only[lens]);omega -splitDisjunctions)))))
    refine CL.sub [0] h4 ?_
    (refine Sg.h ?_;try repeat' ((with_reducible first|refine brA ?_|refine brE fun _=>?_|refine spl ⟨?_,?_⟩<;>intro _)<;>((try simp -implicitDefEqProofs);(try simp -implicitDefEqProofs(disch:=first|assumption|(try simp only[lens]);omega -splitDisjunctions)))))
    all_goals (rw [wrd_eq];rfl)
def WA (t : ByteArray) : Nat → (Nat → RA Wd) × (Nat → RA (List Wd))
 | 0=>(fun i=>.error (i,i),fun i=>.error (i,i))
 | n + 1=>(wordP t (WA t n).2,argsP t (WA t n).1)
theorem WA_told (t : ByteArray) (hs : t.size ≤ 1000000) : ∀ n i,i ≤ t.size → (2 * (t.size - i) + 2 ≤ n → ToldA eW 115 [] t i ((WA t n).1 i)) ∧ (2 * (t.size - i) + 1 ≤ n → ToldA eL 119 [] t i ((WA t n).2 i))
 | 0,i,hi=>⟨fun h=>by omega,fun h=>by omega⟩
 | n + 1,i,hi=>⟨fun h=>word_first t i hs hi _ fun k h1 h2=>(WA_told t hs n k h2).2 (by omega),fun h=>args_first t i hs hi _ fun k h1 h2=>(WA_told t hs n k h2).1 (by omega)⟩
def wdP (t : ByteArray) (i : Nat) : RA Wd:=(WA t (2 * t.size + 2)).1 i
theorem wd_told (t : ByteArray) (hs : t.size ≤ 1000000) (i : Nat) (hi : i ≤ t.size) : ToldA eW 115 [] t i (wdP t i):=(WA_told t hs _ i hi).1 (by omega)
theorem wdP_le (t : ByteArray) (hs : t.size ≤ 1000000) (i : Nat) (hi : i ≤ t.size) : ∀ f j,wdP t i = .ok (f,j) → i ≤ j ∧ j ≤ t.size:=fun f j e=>by
 have:=wd_told t hs i hi;rw [e] at this;exact this.2
def x83 : XC:=.seq (.reg [⟨some 4,.box 29 (.tmp 1),none⟩,⟨some 5,.box 29 (.tmp 2),none⟩,⟨some 6,.alloc 29,none⟩]) (.seq (.reg [⟨some 7,.move (.tmp 0),none⟩,⟨some 8,.load 29 (.tmp 4),none⟩,⟨some 9,.load 29 (.tmp 5),none⟩,⟨some 10,.buildSlice 27 2 #[(0,.tmp 8),(1,.tmp 9)],none⟩,⟨some 11,.build 29 #[(0,.tmp 7),(3,.tmp 10)],none⟩,⟨none,.store 29 (.tmp 6) (.tmp 11),none⟩]) .ret)
@[simp] theorem x83_s {C e s K} : type_of% (@X_at C e s K _ _ x83.eq_1):=X_at x83.eq_1
def an83 : Ann:=⟨[],[],[]⟩
theorem fi83 : FI Try.prog 83 (cxA an83) x83 [.cell 6 29] Try.f83:=fiA Try.func83 mixed
theorem two_first (k : Int) (a b : Ex) : CallOK Try.prog 83 [.int .i64 k,.agg (exr a),.agg (exr b)] [] (.agg (exr (.mk k ⟨#[]⟩ [] [a,b]))) []:=by
 refine fi83.os ?_
 (refine Sg.h ?_;try repeat' ((with_reducible first|refine brA ?_|refine brE fun _=>?_|refine spl ⟨?_,?_⟩<;>intro _)<;>((try simp -implicitDefEqProofs);(try simp -implicitDefEqProofs(disch:=first|assumption|(try simp only[lens]);omega -splitDisjunctions)))))
 rw [exr_eq (.mk k _ _ _)];rfl
end Go.Proofs.Ytbimioonhfhflaa
