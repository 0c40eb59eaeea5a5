import Derived.Test.YtbimioonhfhflaaAFaC
set_option linter.unusedVariables false
set_option linter.unusedSimpArgs false
set_option maxRecDepth 100000
set_option maxHeartbeats 4000000
namespace Go.Proofs.Ytbimioonhfhflaa
open Go Go.Pv
abbrev RX:=RA Ex
abbrev eX (e : Ex) : PV:=.agg (exr e)
def xopL (t : ByteArray) (w : ByteArray) (k : Int) (p : Nat → RX) : Nat → Ex → Nat → RX
 | 0,a,i=>.error (i,i)
 | n + 1,a,i=>if hp t (bl t i) w = true then (match p (bl t i + w.size) with
  | .ok (g,j)=>xopL t w k p n (.mk k ⟨#[]⟩ [] [a,g]) j
  | .error q=>.error q) else .ok (a,bl t i)
def xopP (t : ByteArray) (w : ByteArray) (k : Int) (p : Nat → RX) (i : Nat) : RX:=match p i with
 | .ok (a,j)=>xopL t w k p (t.size + 1) a j
 | .error q=>.error q
def xthenP (t : ByteArray) (po pt : Nat → RX) (i : Nat) : RX:=match po i with
 | .ok (a,j)=>if hp t (bl t j) ⟨#[45,62]⟩ = true then (match pt (bl t j + 2) with
  | .ok (g,k)=>.ok (.mk 8 ⟨#[]⟩ [] [a,g],k)
  | .error q=>.error q) else .ok (a,bl t j)
 | .error q=>.error q
theorem xopL_le {t w : ByteArray} {k : Int} {p : Nat → RX} {lo : Nat} (h : ∀ i,lo ≤ i → i ≤ t.size → ∀ f j,p i = .ok (f,j) → i ≤ j ∧ j ≤ t.size) : ∀ n a i,lo ≤ i → i ≤ t.size → ∀ f j,xopL t w k p n a i = .ok (f,j) → i ≤ j ∧ j ≤ t.size
 | 0,a,i,_,_,f,j,e=>by cases e
 | n + 1,a,i,hl,hi,f,j,e=>by
  have h1:=bl_ge t i
  have h2:=bl_le hi
  unfold xopL at e
  split at e
  ·rename_i hh
   have h3 : bl t i + w.size ≤ t.size:=(of_decide_eq_true hh).1
   split at e
   ·rename_i g q hq
    have h4:=h _ (by omega) h3 _ _ hq
    have h5:=xopL_le h n _ q (by omega) h4.2 f j e
    omega
   ·cases e
  ·cases e;omega
theorem xopP_le {t w : ByteArray} {k : Int} {p : Nat → RX} {lo : Nat} (h : ∀ i,lo ≤ i → i ≤ t.size → ∀ f j,p i = .ok (f,j) → i ≤ j ∧ j ≤ t.size) (i : Nat) (hl : lo ≤ i) (hi : i ≤ t.size) : ∀ f j,xopP t w k p i = .ok (f,j) → i ≤ j ∧ j ≤ t.size:=by
 intro f j e
 unfold xopP at e
 split at e
 ·rename_i a q hq
  have h1:=h i hl hi _ _ hq
  have h2:=xopL_le h _ a q (by omega) h1.2 f j e
  omega
 ·cases e
theorem xthenP_le {t : ByteArray} {po pt : Nat → RX} {i : Nat} (hi : i ≤ t.size) (h : ∀ f j,po i = .ok (f,j) → i ≤ j ∧ j ≤ t.size) (h2 : ∀ k,i < k → k ≤ t.size → ∀ f j,pt k = .ok (f,j) → k ≤ j ∧ j ≤ t.size) : ∀ f j,xthenP t po pt i = .ok (f,j) → i ≤ j ∧ j ≤ t.size:=by
 intro f j e
 unfold xthenP at e
 split at e
 ·rename_i a q hq
  have h1:=h _ _ hq
  have h3:=bl_ge t q
  have h4:=bl_le h1.2
  split at e
  ·rename_i hh
   have h5 : bl t q + 2 ≤ t.size:=(of_decide_eq_true hh).1
   split at e
   ·rename_i g r hr
    have h6:=h2 _ (by omega) h5 _ _ hr
    cases e;omega
   ·cases e
  ·cases e;omega
 ·cases e
def x98_T1 : XC:=.seq (.reg [⟨some 12,.load 29 (.tmp 3),none⟩,⟨none,.store 29 (.tmp 2) (.tmp 12),none⟩]) .ret
def x98_L0 : XC:=.seq (.seq (.reg [⟨some 6,.move (.tmp 0),none⟩,⟨some 7,.call ⟨.value (.func 82),#[.tmp 6,.const (.string ⟨#[38]⟩)],#[118,9]⟩,none⟩]) (.cond (.tmp 7) .skip (.exit 0))) (.block 1 (.drawn 3 [⟨some 8,.load 29 (.tmp 3),none⟩,⟨some 9,.move (.tmp 0),none⟩,⟨some 10,.call ⟨.value (.func 107),#[.tmp 9],#[118]⟩,none⟩,⟨some 11,.call ⟨.value (.func 83),#[.const (.int .i64 6),.tmp 8,.tmp 10],#[3,29,29]⟩,none⟩,⟨none,.store 29 (.tmp 3) (.tmp 11),none⟩]))
def x98 : XC:=.seq (.reg [⟨some 2,.alloc 29,none⟩]) (.seq (.reg [⟨some 4,.move (.tmp 0),none⟩,⟨some 5,.call ⟨.value (.func 107),#[.tmp 4],#[118]⟩,none⟩,⟨some 3,.alloc 29,none⟩,⟨none,.store 29 (.tmp 3) (.tmp 5),none⟩]) (.seq (.bloop 0 x98_L0) (x98_T1)))
@[simp] theorem x98_s {C e s K} : type_of% (@X_at C e s K _ _ x98_T1.eq_1) ∧ type_of% (@X_at C e s K _ _ x98_L0.eq_1) ∧ type_of% (@X_at C e s K _ _ x98.eq_1):=⟨X_at x98_T1.eq_1,X_at x98_L0.eq_1,X_at x98.eq_1⟩
def an98 : Ann:=⟨[(3,.tree (.op 0 (.op 1 (.op 2 (.ck 0 (.op 3 (.op 4 .fin)))))))],[(0,[],[0,2,3],[2,3])],[]⟩
@[simp] theorem an98_a : an98.clsOf 3 = .tree (.op 0 (.op 1 (.op 2 (.ck 0 (.op 3 (.op 4 .fin)))))) ∧ an98.frzOf 3 = [] ∧ an98.loopOf 0 = ([],[0,2,3],[2,3]):=⟨rfl,rfl,rfl⟩
theorem fi98 : FI Try.prog 98 (cxA an98) x98 [.cell 2 29] Try.f98:=fiA Try.func98 mixed
theorem and_firstR (t : ByteArray) (i : Nat) (hs : t.size ≤ 1000000) (hi : i ≤ t.size) (pn : Nat → RX) (hn : ∀ j,i ≤ j → j ≤ t.size → ToldA eX 107 [] t j (pn j)) : ToldA eX 98 [] t i (xopP t ⟨#[38]⟩ 6 pn i):=by
 have hle : ∀ j,i ≤ j → j ≤ t.size → ∀ f k,pn j = .ok (f,k) → j ≤ k ∧ k ≤ t.size:=fun j h1 h2 f k e=>by
  have:=hn j h1 h2;rw [e] at this;exact this.2
 refine told_a fi98 ?_ (xopP_le hle i (Nat.le_refl _) hi)
 have h0:=hn i (Nat.le_refl _) hi
 unfold xopP
 cases hp0 : pn i with
 | error q=>
  obtain ⟨q,q2⟩:=q
  rw [hp0] at h0
  simp only [ToldA] at h0
  (refine Sg.h ?_;try repeat' ((with_reducible first|refine brA ?_|refine brE fun _=>?_|refine spl ⟨?_,?_⟩<;>intro _)<;>((try simp -implicitDefEqProofs);(try simp -implicitDefEqProofs(disch:=first|assumption|(try simp only[lens]);omega -splitDisjunctions)))))
  refine CL.psub [0] h0 ?_
  (refine Sg.h ?_;try repeat' ((with_reducible first|refine brA ?_|refine brE fun _=>?_|refine spl ⟨?_,?_⟩<;>intro _)<;>((try simp -implicitDefEqProofs);(try simp -implicitDefEqProofs(disch:=first|assumption|(try simp only[lens]);omega -splitDisjunctions)))))
 | ok r=>
  obtain ⟨a,j⟩:=r
  rw [hp0] at h0
  obtain ⟨h0,hij,hjt⟩:=h0
  (refine Sg.h ?_;try repeat' ((with_reducible first|refine brA ?_|refine brE fun _=>?_|refine spl ⟨?_,?_⟩<;>intro _)<;>((try simp -implicitDefEqProofs);(try simp -implicitDefEqProofs(disch:=first|assumption|(try simp only[lens]);omega -splitDisjunctions)))))
  refine CL.sub [0] h0 ?_
  (refine Sg.h ?_;try repeat' ((with_reducible first|refine brA ?_|refine brE fun _=>?_|refine spl ⟨?_,?_⟩<;>intro _)<;>((try simp -implicitDefEqProofs);(try simp -implicitDefEqProofs(disch:=first|assumption|(try simp only[lens]);omega -splitDisjunctions)))))
  refine W_of fun Q hQ=>?_
  obtain ⟨R,hR⟩ : ∃ R,xopL t ⟨#[38]⟩ 6 pn (t.size + 1) a j = R:=⟨_,rfl⟩
  rw [hR] at hQ
  have main : ∀ n b k,j ≤ k → k ≤ t.size → t.size - k < n → xopL t ⟨#[38]⟩ 6 pn n b k = R → Q [(0,.ptr 0 0 0),(2,.ptr 1 0 0),(3,.ptr 2 0 0)] [.rows 2 [[.str t,.int .i64 (k : Int)]],.rows 4 [[.int .i64 0,.str ⟨#[]⟩,.nilsl,.nilsl]],.rows 4 [exr b]]:=by
   intro n
   induction n with
   | zero=>intro b k _ _ h;omega
   | succ n ih=>
    intro b k hjk hk hn1 hR
    have hmay:=may_first t k ⟨#[38]⟩ hs hk (by decide)
    have hb1:=bl_ge t k
    unfold mayN at hmay
    unfold xopL at hR
    cases hh : hp t (bl t k) ⟨#[38]⟩ with
    | false=>
     rw [hh] at hmay hR
     simp only [Bool.false_eq_true,if_false] at hmay hR
     subst hR
     generalize bl t k = k1 at *
     apply hQ
     clear hQ ih
     (refine Sg.h ?_;try repeat' ((with_reducible first|refine brA ?_|refine brE fun _=>?_|refine spl ⟨?_,?_⟩<;>intro _)<;>((try simp -implicitDefEqProofs);(try simp -implicitDefEqProofs(disch:=first|assumption|(try simp only[lens]);omega -splitDisjunctions)))))
     refine CL.sub [0] hmay ?_
     (refine Sg.h ?_;try repeat' ((with_reducible first|refine brA ?_|refine brE fun _=>?_|refine spl ⟨?_,?_⟩<;>intro _)<;>((try simp -implicitDefEqProofs);(try simp -implicitDefEqProofs(disch:=first|assumption|(try simp only[lens]);omega -splitDisjunctions)))))
    | true=>
     have hlt : bl t k + 1 ≤ t.size:=(of_decide_eq_true hh).1
     rw [hh] at hmay hR
     simp only [if_true] at hmay hR
     have h1:=hn (bl t k + 1) (by omega) hlt
     change CallOK _ _ _ _ _ [rd t (bl t k + 1)] at hmay
     have hge : k + 1 ≤ bl t k + 1:=by omega
     change (match pn (bl t k + 1) with | .ok (g,j)=>xopL t ⟨#[38]⟩ 6 pn n (.mk 6 ⟨#[]⟩ [] [b,g]) j | .error q=>.error q) = R at hR
     generalize bl t k + 1 = k1 at *
     cases hp1 : pn k1 with
     | error q=>
      obtain ⟨q,q2⟩:=q
      rw [hp1] at h1 hR
      simp only [ToldA] at h1 hR
      subst hR
      apply hQ
      clear hQ ih
      (refine Sg.h ?_;try repeat' ((with_reducible first|refine brA ?_|refine brE fun _=>?_|refine spl ⟨?_,?_⟩<;>intro _)<;>((try simp -implicitDefEqProofs);(try simp -implicitDefEqProofs(disch:=first|assumption|(try simp only[lens]);omega -splitDisjunctions)))))
      refine CL.sub [0] hmay ?_
      (refine Sg.h ?_;try repeat' ((with_reducible first|refine brA ?_|refine brE fun _=>?_|refine spl ⟨?_,?_⟩<;>intro _)<;>((try simp -implicitDefEqProofs);(try simp -implicitDefEqProofs(disch:=first|assumption|(try simp only[lens]);omega -splitDisjunctions)))))
      refine CT.psub [0] h1 ?_
      (refine Sg.h ?_;try repeat' ((with_reducible first|refine brA ?_|refine brE fun _=>?_|refine spl ⟨?_,?_⟩<;>intro _)<;>((try simp -implicitDefEqProofs);(try simp -implicitDefEqProofs(disch:=first|assumption|(try simp only[lens]);omega -splitDisjunctions)))))
     | ok r=>
      obtain ⟨g,j1⟩:=r
      rw [hp1] at h1 hR
      simp only [ToldA] at h1 hR
      obtain ⟨h1,h2,h3⟩:=h1
      have h4:=two_first 6 b g
      have ih:=ih _ j1 (by omega) h3 (by omega) hR
      apply hQ
      clear hQ
      (refine Sg.h ?_;try repeat' ((with_reducible first|refine brA ?_|refine brE fun _=>?_|refine spl ⟨?_,?_⟩<;>intro _)<;>((try simp -implicitDefEqProofs);(try simp -implicitDefEqProofs(disch:=first|assumption|(try simp only[lens]);omega -splitDisjunctions)))))
      refine CL.sub [0] hmay ?_
      (refine Sg.h ?_;try repeat' ((with_reducible first|refine brA ?_|refine brE fun _=>?_|refine spl ⟨?_,?_⟩<;>intro _)<;>((try simp -implicitDefEqProofs);(try simp -implicitDefEqProofs(disch:=first|assumption|(try simp only[lens]);omega -splitDisjunctions)))))
      refine CT.sub [0] h1 ?_
      (refine Sg.h ?_;try repeat' ((first|(with_reducible first|refine brA ?_|refine brE fun _=>?_|refine spl ⟨?_,?_⟩<;>intro _)|refine clo h4 ?_)<;>((try simp -implicitDefEqProofs);(try simp -implicitDefEqProofs(disch:=first|assumption|(try simp only[lens]);omega -splitDisjunctions)))))
      all_goals first|exact ih|(refine at2 ih ?_ ?_<;>simp;done)|(exfalso;first|omega|(simp_all;done)|(simp_all;omega))
  exact main _ a j (Nat.le_refl _) hjt (by omega) hR
def x81_T1 : XC:=.seq (.reg [⟨some 12,.load 29 (.tmp 3),none⟩,⟨none,.store 29 (.tmp 2) (.tmp 12),none⟩]) .ret
def x81_L0 : XC:=.seq (.seq (.reg [⟨some 6,.move (.tmp 0),none⟩,⟨some 7,.call ⟨.value (.func 82),#[.tmp 6,.const (.string ⟨#[124]⟩)],#[118,9]⟩,none⟩]) (.cond (.tmp 7) .skip (.exit 0))) (.block 1 (.drawn 3 [⟨some 8,.load 29 (.tmp 3),none⟩,⟨some 9,.move (.tmp 0),none⟩,⟨some 10,.call ⟨.value (.func 98),#[.tmp 9],#[118]⟩,none⟩,⟨some 11,.call ⟨.value (.func 83),#[.const (.int .i64 7),.tmp 8,.tmp 10],#[3,29,29]⟩,none⟩,⟨none,.store 29 (.tmp 3) (.tmp 11),none⟩]))
def x81 : XC:=.seq (.reg [⟨some 2,.alloc 29,none⟩]) (.seq (.reg [⟨some 4,.move (.tmp 0),none⟩,⟨some 5,.call ⟨.value (.func 98),#[.tmp 4],#[118]⟩,none⟩,⟨some 3,.alloc 29,none⟩,⟨none,.store 29 (.tmp 3) (.tmp 5),none⟩]) (.seq (.bloop 0 x81_L0) (x81_T1)))
@[simp] theorem x81_s {C e s K} : type_of% (@X_at C e s K _ _ x81_T1.eq_1) ∧ type_of% (@X_at C e s K _ _ x81_L0.eq_1) ∧ type_of% (@X_at C e s K _ _ x81.eq_1):=⟨X_at x81_T1.eq_1,X_at x81_L0.eq_1,X_at x81.eq_1⟩
def an81 : Ann:=⟨[(3,.tree (.op 0 (.op 1 (.op 2 (.ck 0 (.op 3 (.op 4 .fin)))))))],[(0,[],[0,2,3],[2,3])],[]⟩
@[simp] theorem an81_a : an81.clsOf 3 = .tree (.op 0 (.op 1 (.op 2 (.ck 0 (.op 3 (.op 4 .fin)))))) ∧ an81.frzOf 3 = [] ∧ an81.loopOf 0 = ([],[0,2,3],[2,3]):=⟨rfl,rfl,rfl⟩
theorem fi81 : FI Try.prog 81 (cxA an81) x81 [.cell 2 29] Try.f81:=fiA Try.func81 mixed
theorem or_firstR (t : ByteArray) (i : Nat) (hs : t.size ≤ 1000000) (hi : i ≤ t.size) (pn : Nat → RX) (hn : ∀ j,i ≤ j → j ≤ t.size → ToldA eX 98 [] t j (pn j)) : ToldA eX 81 [] t i (xopP t ⟨#[124]⟩ 7 pn i):=by
 have hle : ∀ j,i ≤ j → j ≤ t.size → ∀ f k,pn j = .ok (f,k) → j ≤ k ∧ k ≤ t.size:=fun j h1 h2 f k e=>by
  have:=hn j h1 h2;rw [e] at this;exact this.2
 refine told_a fi81 ?_ (xopP_le hle i (Nat.le_refl _) hi)
 have h0:=hn i (Nat.le_refl _) hi
 unfold xopP
 cases hp0 : pn i with
 | error q=>
  obtain ⟨q,q2⟩:=q
  rw [hp0] at h0
  simp only [ToldA] at h0
  (refine Sg.h ?_;try repeat' ((with_reducible first|refine brA ?_|refine brE fun _=>?_|refine spl ⟨?_,?_⟩<;>intro _)<;>((try simp -implicitDefEqProofs);(try simp -implicitDefEqProofs(disch:=first|assumption|(try simp only[lens]);omega -splitDisjunctions)))))
  refine CL.psub [0] h0 ?_
  (refine Sg.h ?_;try repeat' ((with_reducible first|refine brA ?_|refine brE fun _=>?_|refine spl ⟨?_,?_⟩<;>intro _)<;>((try simp -implicitDefEqProofs);(try simp -implicitDefEqProofs(disch:=first|assumption|(try simp only[lens]);omega -splitDisjunctions)))))
 | ok r=>
  obtain ⟨a,j⟩:=r
  rw [hp0] at h0
  obtain ⟨h0,hij,hjt⟩:=h0
  (refine Sg.h ?_;try repeat' ((with_reducible first|refine brA ?_|refine brE fun _=>?_|refine spl ⟨?_,?_⟩<;>intro _)<;>((try simp -implicitDefEqProofs);(try simp -implicitDefEqProofs(disch:=first|assumption|(try simp only[lens]);omega -splitDisjunctions)))))
  refine CL.sub [0] h0 ?_
  (refine Sg.h ?_;try repeat' ((with_reducible first|refine brA ?_|refine brE fun _=>?_|refine spl ⟨?_,?_⟩<;>intro _)<;>((try simp -implicitDefEqProofs);(try simp -implicitDefEqProofs(disch:=first|assumption|(try simp only[lens]);omega -splitDisjunctions)))))
  refine W_of fun Q hQ=>?_
  obtain ⟨R,hR⟩ : ∃ R,xopL t ⟨#[124]⟩ 7 pn (t.size + 1) a j = R:=⟨_,rfl⟩
  rw [hR] at hQ
  have main : ∀ n b k,j ≤ k → k ≤ t.size → t.size - k < n → xopL t ⟨#[124]⟩ 7 pn n b k = R → Q [(0,.ptr 0 0 0),(2,.ptr 1 0 0),(3,.ptr 2 0 0)] [.rows 2 [[.str t,.int .i64 (k : Int)]],.rows 4 [[.int .i64 0,.str ⟨#[]⟩,.nilsl,.nilsl]],.rows 4 [exr b]]:=by
   intro n
   induction n with
   | zero=>intro b k _ _ h;omega
   | succ n ih=>
    intro b k hjk hk hn1 hR
    have hmay:=may_first t k ⟨#[124]⟩ hs hk (by decide)
    have hb1:=bl_ge t k
    unfold mayN at hmay
    unfold xopL at hR
    cases hh : hp t (bl t k) ⟨#[124]⟩ with
    | false=>
     rw [hh] at hmay hR
     simp only [Bool.false_eq_true,if_false] at hmay hR
     subst hR
     generalize bl t k = k1 at *
     apply hQ
     clear hQ ih
     (refine Sg.h ?_;try repeat' ((with_reducible first|refine brA ?_|refine brE fun _=>?_|refine spl ⟨?_,?_⟩<;>intro _)<;>((try simp -implicitDefEqProofs);(try simp -implicitDefEqProofs(disch:=first|assumption|(try simp only[lens]);omega -splitDisjunctions)))))
     refine CL.sub [0] hmay ?_
     (refine Sg.h ?_;try repeat' ((with_reducible first|refine brA ?_|refine brE fun _=>?_|refine spl ⟨?_,?_⟩<;>intro _)<;>((try simp -implicitDefEqProofs);(try simp -implicitDefEqProofs(disch:=first|assumption|(try simp only[lens]);omega -splitDisjunctions)))))
    | true=>
     have hlt : bl t k + 1 ≤ t.size:=(of_decide_eq_true hh).1
     rw [hh] at hmay hR
     simp only [if_true] at hmay hR
     have h1:=hn (bl t k + 1) (by omega) hlt
     change CallOK _ _ _ _ _ [rd t (bl t k + 1)] at hmay
     have hge : k + 1 ≤ bl t k + 1:=by omega
     change (match pn (bl t k + 1) with | .ok (g,j)=>xopL t ⟨#[124]⟩ 7 pn n (.mk 7 ⟨#[]⟩ [] [b,g]) j | .error q=>.error q) = R at hR
     generalize bl t k + 1 = k1 at *
     cases hp1 : pn k1 with
     | error q=>
      obtain ⟨q,q2⟩:=q
      rw [hp1] at h1 hR
      simp only [ToldA] at h1 hR
      subst hR
      apply hQ
      clear hQ ih
      (refine Sg.h ?_;try repeat' ((with_reducible first|refine brA ?_|refine brE fun _=>?_|refine spl ⟨?_,?_⟩<;>intro _)<;>((try simp -implicitDefEqProofs);(try simp -implicitDefEqProofs(disch:=first|assumption|(try simp only[lens]);omega -splitDisjunctions)))))
      refine CL.sub [0] hmay ?_
      (refine Sg.h ?_;try repeat' ((with_reducible first|refine brA ?_|refine brE fun _=>?_|refine spl ⟨?_,?_⟩<;>intro _)<;>((try simp -implicitDefEqProofs);(try simp -implicitDefEqProofs(disch:=first|assumption|(try simp only[lens]);omega -splitDisjunctions)))))
      refine CT.psub [0] h1 ?_
      (refine Sg.h ?_;try repeat' ((with_reducible first|refine brA ?_|refine brE fun _=>?_|refine spl ⟨?_,?_⟩<;>intro _)<;>((try simp -implicitDefEqProofs);(try simp -implicitDefEqProofs(disch:=first|assumption|(try simp only[lens]);omega -splitDisjunctions)))))
     | ok r=>
      obtain ⟨g,j1⟩:=r
      rw [hp1] at h1 hR
      simp only [ToldA] at h1 hR
      obtain ⟨h1,h2,h3⟩:=h1
      have h4:=two_first 7 b g
      have ih:=ih _ j1 (by omega) h3 (by omega) hR
      apply hQ
      clear hQ
      (refine Sg.h ?_;try repeat' ((with_reducible first|refine brA ?_|refine brE fun _=>?_|refine spl ⟨?_,?_⟩<;>intro _)<;>((try simp -implicitDefEqProofs);(try simp -implicitDefEqProofs(disch:=first|assumption|(try simp only[lens]);omega -splitDisjunctions)))))
      refine CL.sub [0] hmay ?_
      (refine Sg.h ?_;try repeat' ((with_reducible first|refine brA ?_|refine brE fun _=>?_|refine spl ⟨?_,?_⟩<;>intro _)<;>((try simp -implicitDefEqProofs);(try simp -implicitDefEqProofs(disch:=first|assumption|(try simp only[lens]);omega -splitDisjunctions)))))
      refine CT.sub [0] h1 ?_
      (refine Sg.h ?_;try repeat' ((first|(with_reducible first|refine brA ?_|refine brE fun _=>?_|refine spl ⟨?_,?_⟩<;>intro _)|refine clo h4 ?_)<;>((try simp -implicitDefEqProofs);(try simp -implicitDefEqProofs(disch:=first|assumption|(try simp only[lens]);omega -splitDisjunctions)))))
      all_goals first|exact ih|(refine at2 ih ?_ ?_<;>simp;done)|(exfalso;first|omega|(simp_all;done)|(simp_all;omega))
  exact main _ a j (Nat.le_refl _) hjt (by omega) hR
def x73 : XC:=.seq (.reg [⟨some 2,.alloc 29,none⟩]) (.seq (.reg [⟨some 4,.move (.tmp 0),none⟩,⟨some 5,.call ⟨.value (.func 81),#[.tmp 4],#[118]⟩,none⟩,⟨some 3,.alloc 29,none⟩,⟨none,.store 29 (.tmp 3) (.tmp 5),none⟩]) (.seq (.seq (.reg [⟨some 6,.move (.tmp 0),none⟩,⟨some 7,.call ⟨.value (.func 82),#[.tmp 6,.const (.string ⟨#[45,62]⟩)],#[118,9]⟩,none⟩]) (.cond (.tmp 7) (.seq (.drawn 3 [⟨some 8,.load 29 (.tmp 3),none⟩,⟨some 9,.move (.tmp 0),none⟩,⟨some 10,.call ⟨.value (.func 73),#[.tmp 9],#[118]⟩,none⟩,⟨some 11,.call ⟨.value (.func 83),#[.const (.int .i64 8),.tmp 8,.tmp 10],#[3,29,29]⟩,none⟩,⟨none,.store 29 (.tmp 2) (.tmp 11),none⟩]) .ret) .skip)) (.seq (.reg [⟨some 12,.load 29 (.tmp 3),none⟩,⟨none,.store 29 (.tmp 2) (.tmp 12),none⟩]) .ret)))
@[simp] theorem x73_s {C e s K} : type_of% (@X_at C e s K _ _ x73.eq_1):=X_at x73.eq_1
def an73 : Ann:=⟨[(3,.tree (.op 0 (.op 1 (.op 2 (.ck 0 (.op 3 (.op 4 .fin)))))))],[],[]⟩
@[simp] theorem an73_a : an73.clsOf 3 = .tree (.op 0 (.op 1 (.op 2 (.ck 0 (.op 3 (.op 4 .fin)))))) ∧ an73.frzOf 3 = []:=⟨rfl,rfl⟩
theorem fi73 : FI Try.prog 73 (cxA an73) x73 [.cell 2 29] Try.f73:=fiA Try.func73 mixed
theorem then_firstR (t : ByteArray) (i : Nat) (hs : t.size ≤ 1000000) (hi : i ≤ t.size) (po pt : Nat → RX) (ho : ToldA eX 81 [] t i (po i)) (ht : ∀ j,i < j → j ≤ t.size → ToldA eX 73 [] t j (pt j)) : ToldA eX 73 [] t i (xthenP t po pt i):=by
 refine told_a fi73 ?_ (xthenP_le hi (fun f j e=>by rw [e] at ho;exact ho.2) fun k h1 h2 f j e=>by
  have:=ht k h1 h2;rw [e] at this;exact this.2)
 unfold xthenP
 cases hp0 : po i with
 | error q=>
  obtain ⟨q,q2⟩:=q
  rw [hp0] at ho
  simp only [ToldA] at ho
  (refine Sg.h ?_;try repeat' ((with_reducible first|refine brA ?_|refine brE fun _=>?_|refine spl ⟨?_,?_⟩<;>intro _)<;>((try simp -implicitDefEqProofs);(try simp -implicitDefEqProofs(disch:=first|assumption|(try simp only[lens]);omega -splitDisjunctions)))))
  refine CL.psub [0] ho ?_
  (refine Sg.h ?_;try repeat' ((with_reducible first|refine brA ?_|refine brE fun _=>?_|refine spl ⟨?_,?_⟩<;>intro _)<;>((try simp -implicitDefEqProofs);(try simp -implicitDefEqProofs(disch:=first|assumption|(try simp only[lens]);omega -splitDisjunctions)))))
 | ok r=>
  obtain ⟨a,k⟩:=r
  rw [hp0] at ho
  obtain ⟨h0,hij,hk⟩:=ho
  have hmay:=may_first t k ⟨#[45,62]⟩ hs hk (by decide)
  have hb1:=bl_ge t k
  unfold mayN at hmay
  cases hh : hp t (bl t k) ⟨#[45,62]⟩ with
  | false=>
   simp only [hh,Bool.false_eq_true,if_false] at hmay ⊢
   generalize bl t k = k1 at *
   (refine Sg.h ?_;try repeat' ((with_reducible first|refine brA ?_|refine brE fun _=>?_|refine spl ⟨?_,?_⟩<;>intro _)<;>((try simp -implicitDefEqProofs);(try simp -implicitDefEqProofs(disch:=first|assumption|(try simp only[lens]);omega -splitDisjunctions)))))
   refine CL.sub [0] h0 ?_
   (refine Sg.h ?_;try repeat' ((with_reducible first|refine brA ?_|refine brE fun _=>?_|refine spl ⟨?_,?_⟩<;>intro _)<;>((try simp -implicitDefEqProofs);(try simp -implicitDefEqProofs(disch:=first|assumption|(try simp only[lens]);omega -splitDisjunctions)))))
   refine CL.sub [0] hmay ?_
   (refine Sg.h ?_;try repeat' ((with_reducible first|refine brA ?_|refine brE fun _=>?_|refine spl ⟨?_,?_⟩<;>intro _)<;>((try simp -implicitDefEqProofs);(try simp -implicitDefEqProofs(disch:=first|assumption|(try simp only[lens]);omega -splitDisjunctions)))))
  | true=>
   have hlt : bl t k + 2 ≤ t.size:=(of_decide_eq_true hh).1
   simp only [hh,if_true] at hmay ⊢
   have h1:=ht (bl t k + 2) (by omega) hlt
   change CallOK _ _ _ _ _ [rd t (bl t k + 2)] at hmay
   generalize bl t k + 2 = k1 at *
   cases hp1 : pt k1 with
   | error q=>
    obtain ⟨q,q2⟩:=q
    rw [hp1] at h1
    simp only [ToldA] at h1
    try simp only [hp1]
    (refine Sg.h ?_;try repeat' ((with_reducible first|refine brA ?_|refine brE fun _=>?_|refine spl ⟨?_,?_⟩<;>intro _)<;>((try simp -implicitDefEqProofs);(try simp -implicitDefEqProofs(disch:=first|assumption|(try simp only[lens]);omega -splitDisjunctions)))))
    refine CL.sub [0] h0 ?_
    (refine Sg.h ?_;try repeat' ((with_reducible first|refine brA ?_|refine brE fun _=>?_|refine spl ⟨?_,?_⟩<;>intro _)<;>((try simp -implicitDefEqProofs);(try simp -implicitDefEqProofs(disch:=first|assumption|(try simp only[lens]);omega -splitDisjunctions)))))
    refine CL.sub [0] hmay ?_
    (refine Sg.h ?_;try repeat' ((with_reducible first|refine brA ?_|refine brE fun _=>?_|refine spl ⟨?_,?_⟩<;>intro _)<;>((try simp -implicitDefEqProofs);(try simp -implicitDefEqProofs(disch:=first|assumption|(try simp only[lens]);omega -splitDisjunctions)))))
    refine CT.psub [0] h1 ?_
    (refine Sg.h ?_;try repeat' ((with_reducible first|refine brA ?_|refine brE fun _=>?_|refine spl ⟨?_,?_⟩<;>intro _)<;>((try simp -implicitDefEqProofs);(try simp -implicitDefEqProofs(disch:=first|assumption|(try simp only[lens]);omega -splitDisjunctions)))))
   | ok r=>
    obtain ⟨g,j1⟩:=r
    rw [hp1] at h1
    simp only [ToldA] at h1
    try simp only [hp1]
    obtain ⟨h1,h2,h3⟩:=h1
    have h4:=two_first 8 a g
    (refine Sg.h ?_;try repeat' ((with_reducible first|refine brA ?_|refine brE fun _=>?_|refine spl ⟨?_,?_⟩<;>intro _)<;>((try simp -implicitDefEqProofs);(try simp -implicitDefEqProofs(disch:=first|assumption|(try simp only[lens]);omega -splitDisjunctions)))))
    refine CL.sub [0] h0 ?_
    (refine Sg.h ?_;try repeat' ((with_reducible first|refine brA ?_|refine brE fun _=>?_|refine spl ⟨?_,?_⟩<;>intro _)<;>((try simp -implicitDefEqProofs);(try simp -implicitDefEqProofs(disch:=first|assumption|(try simp only[lens]);omega -splitDisjunctions)))))
    refine CL.sub [0] hmay ?_
    (refine Sg.h ?_;try repeat' ((with_reducible first|refine brA ?_|refine brE fun _=>?_|refine spl ⟨?_,?_⟩<;>intro _)<;>((try simp -implicitDefEqProofs);(try simp -implicitDefEqProofs(disch:=first|assumption|(try simp only[lens]);omega -splitDisjunctions)))))
    refine CT.sub [0] h1 ?_
    (refine Sg.h ?_;try repeat' ((first|(with_reducible first|refine brA ?_|refine brE fun _=>?_|refine spl ⟨?_,?_⟩<;>intro _)|refine clo h4 ?_)<;>((try simp -implicitDefEqProofs);(try simp -implicitDefEqProofs(disch:=first|assumption|(try simp only[lens]);omega -splitDisjunctions)))))
end Go.Proofs.Ytbimioonhfhflaa
