import Derived.Test.YtbimioonhfhflaaAFaD
import Derived.Test.YtbimioonhfhflaaAPvPan
set_option linter.unusedVariables false
set_option linter.unusedSimpArgs false
set_option maxRecDepth 100000
set_option maxHeartbeats 4000000
namespace Go.Proofs.Ytbimioonhfhflaa
open Go Go.Pv
def OZS (F : List Nat) (m : Nat) (v : PV) (s' : Store) (v1 : PV) (s1 : Store) : Prop:=gsFin m v s' (frzV F s1 v1) (s1.mapIdx (frzO F s1))
def zsFin (m : Nat) (v : PV) (s' : Store) (v1 : PV) (s1 : Store) : Prop:=OZS (grow s1 64 ((refsN 4 v1).filter fun r=>!r.2) []) m v s' v1 s1
@[simp] theorem zsFin_eq {m : Nat} {v v1 : PV} {s1 s' : Store} : zsFin m v s' v1 s1 = OZS (grow s1 64 ((refsN 4 v1).filter fun r=>!r.2) []) m v s' v1 s1:=rfl
@[simp] theorem OZS_nil {m : Nat} {v v1 : PV} {s1 s' : Store} : OZS [] m v s' v1 s1 = gsFin m v s' v1 s1:=by
 unfold OZS
 have : s1.mapIdx (frzO [] s1) = s1:=by
  apply List.ext_getElem?
  intro i
  rw [List.getElem?_mapIdx]
  cases s1[i]? <;> simp [frzO_nil]
 rw [frzV_nil,this]
@[simp] theorem OZS_cons {i : Nat} {F : List Nat} {m : Nat} {v v1 : PV} {s1 s' : Store} : OZS (i :: F) m v s' v1 s1 = gsFin m v s' (frzV (i :: F) s1 v1) (s1.mapIdx (frzO (i :: F) s1)):=rfl
theorem zsFin_ret {m : Nat} {v v1 : PV} {s1 s' : Store} (h : zsFin m v s' v1 s1) : RetView m v1 s1 v s':=RetView.trans (RetView.frz _ _ _) (gsFin_ret h)
def wZ {α : Type} (enc : α → PV) (P : Program) (rs : List ResultVar) (m : Nat) (t : ByteArray) (R : RA α) : Exit → AE → Store → Prop:=fun x e s=>match R with
 | .ok (f,j)=>wfin P rs (zsFin m (enc f) [rd t j]) x e s
 | .error (p,q)=>panFin [] m (stopE 1 p) [rd t q] x s
section
variable {α : Type} {enc : α → PV} {P : Program} {rs : List ResultVar} {m : Nat} {t : ByteArray} {f : α} {j p q : Nat} {e : AE} {s : Store} {v : Value}
@[simp] theorem wZ_on : wZ enc P rs m t (.ok (f,j)) .normal e s = FN (xres P (envOf e) s rs) (zsFin m (enc f) [rd t j]) s:=rfl
@[simp] theorem wZ_or : wZ enc P rs m t (.ok (f,j)) .ret e s = FN (xres P (envOf e) s rs) (zsFin m (enc f) [rd t j]) s:=rfl
@[simp] theorem wZ_ep : wZ enc P rs m t (.error (p,q)) (pan1 v) e s = panFin [] m (stopE 1 p) [rd t q] (pan1 v) s:=rfl
end
theorem told_z {α : Type} {enc : α → PV} {az : List PV} {F : FuncId} {C : Program → Nat → WC} {x : XC} {rs : List ResultVar} {fn : Func} (i : FI Try.prog F C x rs fn) {t : ByteArray} {k : Nat} {R : RA α} (h : X (C Try.prog 1) x (argsA 0 (.ptr 0 0 0 :: az)) [rd t k] (.fany (wZ enc (C Try.prog 1).P rs 1 t R))) (hR : ∀ f j,R = .ok (f,j) → k ≤ j ∧ j ≤ t.size) (hl : Nat.ble (az.length + 1) fn.ntmps = true:=by exact rfl) : ToldA enc F az t k R:=by
 cases R with
 | ok q=>
  obtain ⟨f,j⟩:=q
  have h' : X (C Try.prog 1) x (argsA 0 (.ptr 0 0 0 :: az)) [rd t k] (.fin rs (zsFin 1 (enc f) [rd t j])):=by unfold X at h ⊢;exact h
  exact ⟨FI.ops i _ (fun v1 s1 h=>zsFin_ret h) (s:=[rd t k]) h' hl,hR f j rfl⟩
 | error q=>
  obtain ⟨p,q⟩:=q
  have h' : X (C Try.prog 1) x (argsA 0 (.ptr 0 0 0 :: az)) [rd t k] (.fpan (panFin [] 1 (stopE 1 p) [rd t q])):=by unfold X at h ⊢;exact h
  exact i.pan (s:=[rd t k]) [] h' hl
def quaP (t : ByteArray) (k : Int) (pn : Nat → RX) : RA ByteArray → RX
 | .ok (n,j)=>(match pn j with
  | .ok (e,l)=>.ok (.mk k n [] [e],l)
  | .error q=>.error q)
 | .error q=>.error q
def xuna : RX → RX
 | .ok (e,l)=>.ok (.mk 5 ⟨#[]⟩ [] [e],l)
 | .error q=>.error q
def xpar (t : ByteArray) : RX → RX
 | .ok (e,l)=>(match mustP t ⟨#[41]⟩ l with
  | .ok (_,j)=>.ok (e,j)
  | .error q=>.error q)
 | .error q=>.error q
def xatom (t : ByteArray) : RA Wd → RX
 | .ok (w,j)=>if hp t (bl t j) ⟨#[61]⟩ = true then (match wdP t (bl t j + 1) with
  | .ok (v,k)=>.ok (.mk 2 ⟨#[]⟩ [w,v] [],k)
  | .error q=>.error q) else if isNameB w.nm = true then .error (bl t j,bl t j) else .ok (.mk 1 w.nm w.args [],bl t j)
 | .error q=>.error q
def xnotP (t : ByteArray) (pn pt : Nat → RX) (i : Nat) : RX:=
 if hp t (bl t i) ⟨#[126]⟩ = true then xuna (pn (bl t i + 1)) else if hp t (bl t i) ⟨#[33]⟩ = true then quaP t 9 pn (varP t (bl t i + 1)) else if hp t (bl t i) ⟨#[63]⟩ = true then quaP t 10 pn (varP t (bl t i + 1))
 else if hp t (bl t i) ⟨#[40]⟩ = true then xpar t (pt (bl t i + 1)) else if hp t (bl t i) ⟨#[49]⟩ = true then .ok (.mk 3 ⟨#[]⟩ [] [],bl t i + 1) else if hp t (bl t i) ⟨#[48]⟩ = true then .ok (.mk 4 ⟨#[]⟩ [] [],bl t i + 1)
 else xatom t (wdP t (bl t i))
theorem varP_le {t : ByteArray} {i : Nat} (hi : i ≤ t.size) {n : ByteArray} {j : Nat} (h : varP t i = .ok (n,j)) : i ≤ j ∧ j ≤ t.size:=by
 have hb1:=bl_ge t i
 have hb2:=bl_le hi
 have hb3:=lta_ge t (bl t i)
 have hb4:=lta_le hb2
 unfold varP at h
 split at h
 ·cases h;omega
 ·cases h
theorem quaP_le {t : ByteArray} {k : Int} {pn : Nat → RX} {i : Nat} (hi : i ≤ t.size) (h1 : ∀ k,i ≤ k → k ≤ t.size → ∀ f j,pn k = .ok (f,j) → k ≤ j ∧ j ≤ t.size) {f : Ex} {j : Nat} (h : quaP t k pn (varP t i) = .ok (f,j)) : i ≤ j ∧ j ≤ t.size:=by
 cases hv : varP t i with
 | error q=>rw [hv] at h;cases h
 | ok r=>
  obtain ⟨n,l⟩:=r
  have h2:=varP_le hi hv
  rw [hv] at h
  simp only [quaP] at h
  split at h
  ·rename_i e m hm
   have:=h1 l h2.1 h2.2 _ _ hm
   cases h;omega
  ·cases h
theorem mustP_le {t w : ByteArray} {i : Nat} {u : Unit} {j : Nat} (h : mustP t w i = .ok (u,j)) : i ≤ j ∧ j ≤ t.size:=by
 have:=bl_ge t i
 unfold mustP at h
 split at h
 ·rename_i hh
  have:=hp_len hh
  cases h;omega
 ·cases h
theorem xatom_le {t : ByteArray} (hs : t.size ≤ 1000000) {i : Nat} (hi : i ≤ t.size) {f : Ex} {j : Nat} (h : xatom t (wdP t i) = .ok (f,j)) : i ≤ j ∧ j ≤ t.size:=by
 cases hv : wdP t i with
 | error q=>rw [hv] at h;cases h
 | ok r=>
  obtain ⟨w,l⟩:=r
  have h2:=wdP_le t hs i hi _ _ hv
  have h3:=bl_ge t l
  have h4:=bl_le h2.2
  rw [hv] at h
  simp only [xatom] at h
  split at h
  ·rename_i hh
   have h5 : bl t l + 1 ≤ t.size:=hp_len hh
   split at h
   ·rename_i v m hm
    have:=wdP_le t hs _ h5 _ _ hm
    cases h;omega
   ·cases h
  ·split at h
   ·cases h
   ·cases h;omega
theorem xnotP_le {t : ByteArray} (hs : t.size ≤ 1000000) {pn pt : Nat → RX} {i : Nat} (hi : i ≤ t.size) (h1 : ∀ k,i < k → k ≤ t.size → ∀ f j,pn k = .ok (f,j) → k ≤ j ∧ j ≤ t.size) (h2 : ∀ k,i < k → k ≤ t.size → ∀ f j,pt k = .ok (f,j) → k ≤ j ∧ j ≤ t.size) : ∀ f j,xnotP t pn pt i = .ok (f,j) → i ≤ j ∧ j ≤ t.size:=by
 intro f j e
 have hb:=bl_ge t i
 have hb2:=bl_le hi
 unfold xnotP at e
 split at e
 ·rename_i hh
  have h3 : bl t i + 1 ≤ t.size:=hp_len hh
  cases hp : pn (bl t i + 1) with
  | error q=>rw [hp] at e;cases e
  | ok r=>
   obtain ⟨g,l⟩:=r
   rw [hp] at e
   have:=h1 _ (by omega) h3 _ _ hp
   cases e;omega
 split at e
 ·rename_i hh
  have h3 : bl t i + 1 ≤ t.size:=hp_len hh
  have:=quaP_le h3 (fun k h4 h5=>h1 k (by omega) h5) e;omega
 split at e
 ·rename_i hh
  have h3 : bl t i + 1 ≤ t.size:=hp_len hh
  have:=quaP_le h3 (fun k h4 h5=>h1 k (by omega) h5) e;omega
 split at e
 ·rename_i hh
  have h3 : bl t i + 1 ≤ t.size:=hp_len hh
  cases hp : pt (bl t i + 1) with
  | error q=>rw [hp] at e;cases e
  | ok r=>
   obtain ⟨g,l⟩:=r
   rw [hp] at e
   have h4:=h2 _ (by omega) h3 _ _ hp
   simp only [xpar] at e
   split at e
   ·rename_i u m hm
    have:=mustP_le hm
    cases e;omega
   ·cases e
 split at e
 ·rename_i hh
  have h3 : bl t i + 1 ≤ t.size:=hp_len hh
  cases e;omega
 split at e
 ·rename_i hh
  have h3 : bl t i + 1 ≤ t.size:=hp_len hh
  cases e;omega
 ·have:=xatom_le hs hb2 e;omega
def x107 : XC:=.seq (.reg [⟨some 2,.alloc 29,none⟩]) (.seq (.block 0 (.seq (.reg [⟨some 8,.move (.tmp 0),none⟩,⟨some 9,.call ⟨.value (.func 82),#[.tmp 8,.const (.string ⟨#[126]⟩)],#[118,9]⟩,none⟩,⟨some 7,.assign (.tmp 9),none⟩]) (.cond (.tmp 7) (.seq (.reg [⟨some 10,.move (.tmp 0),none⟩,⟨some 11,.call ⟨.value (.func 107),#[.tmp 10],#[118]⟩,none⟩,⟨some 12,.buildSlice 27 1 #[(0,.tmp 11)],none⟩,⟨some 13,.build 29 #[(0,.const (.int .i64 5)),(3,.tmp 12)],none⟩,⟨none,.store 29 (.tmp 2) (.tmp 13),none⟩]) .ret) (.seq (.reg [⟨some 15,.move (.tmp 0),none⟩,⟨some 16,.call ⟨.value (.func 82),#[.tmp 15,.const (.string ⟨#[33]⟩)],#[118,9]⟩,none⟩,⟨some 14,.assign (.tmp 16),none⟩]) (.cond (.tmp 14) (.seq (.reg [⟨some 17,.move (.tmp 0),none⟩,⟨some 18,.call ⟨.value (.func 113),#[.tmp 17],#[118]⟩,none⟩,⟨some 3,.assign (.tmp 18),none⟩]) (.seq (.reg [⟨some 19,.move (.tmp 3),none⟩,⟨some 20,.move (.tmp 0),none⟩,⟨some 21,.call ⟨.value (.func 107),#[.tmp 20],#[118]⟩,none⟩,⟨some 22,.buildSlice 27 1 #[(0,.tmp 21)],none⟩,⟨some 23,.build 29 #[(0,.const (.int .i64 9)),(1,.tmp 19),(3,.tmp 22)],none⟩,⟨none,.store 29 (.tmp 2) (.tmp 23),none⟩]) .ret)) (.seq (.reg [⟨some 25,.move (.tmp 0),none⟩,⟨some 26,.call ⟨.value (.func 82),#[.tmp 25,.const (.string ⟨#[63]⟩)],#[118,9]⟩,none⟩,⟨some 24,.assign (.tmp 26),none⟩]) (.cond (.tmp 24) (.seq (.reg [⟨some 27,.move (.tmp 0),none⟩,⟨some 28,.call ⟨.value (.func 113),#[.tmp 27],#[118]⟩,none⟩,⟨some 4,.assign (.tmp 28),none⟩]) (.seq (.reg [⟨some 29,.move (.tmp 4),none⟩,⟨some 30,.move (.tmp 0),none⟩,⟨some 31,.call ⟨.value (.func 107),#[.tmp 30],#[118]⟩,none⟩,⟨some 32,.buildSlice 27 1 #[(0,.tmp 31)],none⟩,⟨some 33,.build 29 #[(0,.const (.int .i64 10)),(1,.tmp 29),(3,.tmp 32)],none⟩,⟨none,.store 29 (.tmp 2) (.tmp 33),none⟩]) .ret)) (.seq (.reg [⟨some 35,.move (.tmp 0),none⟩,⟨some 36,.call ⟨.value (.func 82),#[.tmp 35,.const (.string ⟨#[40]⟩)],#[118,9]⟩,none⟩,⟨some 34,.assign (.tmp 36),none⟩]) (.cond (.tmp 34) (.seq (.reg [⟨some 37,.move (.tmp 0),none⟩,⟨some 38,.call ⟨.value (.func 73),#[.tmp 37],#[118]⟩,none⟩,⟨some 5,.alloc 29,none⟩,⟨none,.store 29 (.tmp 5) (.tmp 38),none⟩]) (.seq (.reg [⟨some 39,.move (.tmp 0),none⟩,⟨some 40,.call ⟨.value (.func 114),#[.tmp 39,.const (.string ⟨#[41]⟩)],#[118,9]⟩,none⟩]) (.seq (.reg [⟨some 41,.load 29 (.tmp 5),none⟩,⟨none,.store 29 (.tmp 2) (.tmp 41),none⟩]) .ret))) (.seq (.reg [⟨some 43,.move (.tmp 0),none⟩,⟨some 44,.call ⟨.value (.func 82),#[.tmp 43,.const (.string ⟨#[49]⟩)],#[118,9]⟩,none⟩,⟨some 42,.assign (.tmp 44),none⟩]) (.cond (.tmp 42) (.seq (.reg [⟨some 45,.build 29 #[(0,.const (.int .i64 3))],none⟩,⟨none,.store 29 (.tmp 2) (.tmp 45),none⟩]) .ret) (.seq (.reg [⟨some 47,.move (.tmp 0),none⟩,⟨some 48,.call ⟨.value (.func 82),#[.tmp 47,.const (.string ⟨#[48]⟩)],#[118,9]⟩,none⟩,⟨some 46,.assign (.tmp 48),none⟩]) (.cond (.tmp 46) (.seq (.reg [⟨some 49,.build 29 #[(0,.const (.int .i64 4))],none⟩,⟨none,.store 29 (.tmp 2) (.tmp 49),none⟩]) .ret) .skip))))))))))))) (.seq (.reg [⟨some 50,.move (.tmp 0),none⟩,⟨some 51,.call ⟨.value (.func 115),#[.tmp 50],#[118]⟩,none⟩,⟨some 6,.alloc 31,none⟩,⟨none,.store 31 (.tmp 6) (.tmp 51),none⟩]) (.seq (.seq (.reg [⟨some 52,.move (.tmp 0),none⟩,⟨some 53,.call ⟨.value (.func 82),#[.tmp 52,.const (.string ⟨#[61]⟩)],#[118,9]⟩,none⟩]) (.cond (.tmp 53) (.seq (.drawn 19 [⟨some 54,.load 31 (.tmp 6),none⟩,⟨some 55,.move (.tmp 0),none⟩,⟨some 56,.call ⟨.value (.func 115),#[.tmp 55],#[118]⟩,none⟩,⟨some 57,.buildSlice 26 2 #[(0,.tmp 54),(1,.tmp 56)],none⟩,⟨some 58,.build 29 #[(0,.const (.int .i64 2)),(2,.tmp 57)],none⟩,⟨none,.store 29 (.tmp 2) (.tmp 58),none⟩]) .ret) .skip)) (.seq (.seq (.reg [⟨some 59,.fieldAddr 31 (.tmp 6) 0,none⟩,⟨some 60,.load 9 (.tmp 59),none⟩,⟨some 61,.call ⟨.value (.func 24),#[.tmp 60],#[9]⟩,none⟩]) (.cond (.tmp 61) (.reg [⟨some 62,.move (.tmp 0),none⟩,⟨some 63,.move (.tmp 0),none⟩,⟨some 64,.nilCheck (.tmp 63),none⟩,⟨some 65,.fieldAddr 120 (.tmp 64) 1,none⟩,⟨some 66,.load 3 (.tmp 65),none⟩,⟨some 67,.call ⟨.value (.func 75),#[.tmp 62,.tmp 66],#[118,3]⟩,none⟩]) .skip)) (.seq (.reg [⟨some 68,.fieldAddr 31 (.tmp 6) 0,none⟩,⟨some 69,.load 9 (.tmp 68),none⟩,⟨some 70,.fieldAddr 31 (.tmp 6) 1,none⟩,⟨some 71,.load 26 (.tmp 70),none⟩,⟨some 72,.build 29 #[(0,.const (.int .i64 1)),(1,.tmp 69),(2,.tmp 71)],none⟩,⟨none,.store 29 (.tmp 2) (.tmp 72),none⟩]) .ret)))))
@[simp] theorem x107_s {C e s K} : type_of% (@X_at C e s K _ _ x107.eq_1):=X_at x107.eq_1
def an107 : Ann:=⟨[(19,.tree (.op 0 (.op 1 (.op 2 (.ck 0 (.op 3 (.op 4 (.op 5 .fin))))))))],[],[]⟩
@[simp] theorem an107_a : an107.clsOf 19 = .tree (.op 0 (.op 1 (.op 2 (.ck 0 (.op 3 (.op 4 (.op 5 .fin))))))) ∧ an107.frzOf 19 = []:=⟨rfl,rfl⟩
theorem fi107 : FI Try.prog 107 (cxA an107) x107 [.cell 2 29] Try.f107:=fiA Try.func107 mixed
theorem not_firstR (t : ByteArray) (i : Nat) (hs : t.size ≤ 1000000) (hi : i ≤ t.size) (pn pt : Nat → RX) (hn : ∀ j,i < j → j ≤ t.size → ToldA eX 107 [] t j (pn j)) (ht : ∀ j,i < j → j ≤ t.size → ToldA eX 73 [] t j (pt j)) : ToldA eX 107 [] t i (xnotP t pn pt i):=by
 refine told_z fi107 ?_ (xnotP_le hs hi (fun k h1 h2 f j e=>by have:=hn k h1 h2;rw [e] at this;exact this.2) fun k h1 h2 f j e=>by have:=ht k h1 h2;rw [e] at this;exact this.2)
 have hb:=bl_ge t i
 have hb2:=bl_le hi
 have hbb:=bl_bl t i
 have hmay:=fun w hw=>may_first t i w hs hi hw
 unfold mayN at hmay
 unfold xnotP
 cases h0 : hp t (bl t i) ⟨#[126]⟩ with
 | true=>
  have hlt : bl t i + 1 ≤ t.size:=hp_len h0
  have m0:=hmay ⟨#[126]⟩ (by decide)
  simp only [h0,Bool.false_eq_true,if_false,if_true] at m0 ⊢
  change CallOK _ _ _ _ _ [rd t (bl t i + 1)] at m0
  have e1:=hn (bl t i + 1) (by omega) hlt
  generalize bl t i + 1 = k1 at *
  generalize bl t i = k0 at *
  cases hp1 : pn k1 with
  | error q=>
   obtain ⟨q,q2⟩:=q
   rw [hp1] at e1
   simp only [ToldA] at e1
   simp only [xuna]
   (refine Sg.h ?_;try repeat' ((with_reducible first|refine brA ?_|refine brE fun _=>?_|refine spl ⟨?_,?_⟩<;>intro _)<;>((try simp -implicitDefEqProofs);(try simp -implicitDefEqProofs(disch:=first|assumption|(try simp only[lens]);omega -splitDisjunctions)))))
   refine CL.sub [0] m0 ?_
   (refine Sg.h ?_;try repeat' ((with_reducible first|refine brA ?_|refine brE fun _=>?_|refine spl ⟨?_,?_⟩<;>intro _)<;>((try simp -implicitDefEqProofs);(try simp -implicitDefEqProofs(disch:=first|assumption|(try simp only[lens]);omega -splitDisjunctions)))))
   refine CL.psub [0] e1 ?_
   (refine Sg.h ?_;try repeat' ((with_reducible first|refine brA ?_|refine brE fun _=>?_|refine spl ⟨?_,?_⟩<;>intro _)<;>((try simp -implicitDefEqProofs);(try simp -implicitDefEqProofs(disch:=first|assumption|(try simp only[lens]);omega -splitDisjunctions)))))
  | ok r=>
   obtain ⟨g,j1⟩:=r
   rw [hp1] at e1
   obtain ⟨e1,e2,e3⟩:=e1
   simp only [xuna]
   (refine Sg.h ?_;try repeat' ((with_reducible first|refine brA ?_|refine brE fun _=>?_|refine spl ⟨?_,?_⟩<;>intro _)<;>((try simp -implicitDefEqProofs);(try simp -implicitDefEqProofs(disch:=first|assumption|(try simp only[lens]);omega -splitDisjunctions)))))
   refine CL.sub [0] m0 ?_
   (refine Sg.h ?_;try repeat' ((with_reducible first|refine brA ?_|refine brE fun _=>?_|refine spl ⟨?_,?_⟩<;>intro _)<;>((try simp -implicitDefEqProofs);(try simp -implicitDefEqProofs(disch:=first|assumption|(try simp only[lens]);omega -splitDisjunctions)))))
   refine CL.sub [0] e1 ?_
   (refine Sg.h ?_;try repeat' ((with_reducible first|refine brA ?_|refine brE fun _=>?_|refine spl ⟨?_,?_⟩<;>intro _)<;>((try simp -implicitDefEqProofs);(try simp -implicitDefEqProofs(disch:=first|assumption|(try simp only[lens]);omega -splitDisjunctions)))))
   all_goals (rw [exr_eq (.mk _ _ _ _)];rfl)
 | false=>
  cases h1 : hp t (bl t i) ⟨#[33]⟩ with
  | true=>
   have hlt : bl t i + 1 ≤ t.size:=hp_len h1
   have m0:=hmay ⟨#[126]⟩ (by decide)
   have m1:=may_firstAt t (bl t i) ⟨#[33]⟩ hs hb2 hbb (by decide) true h1
   simp only [h0,h1,Bool.false_eq_true,if_false,if_true] at m0 m1 ⊢
   change CallOK _ _ _ _ _ [rd t (bl t i + 1)] at m1
   have ev:=variable_first t (bl t i + 1) hs hlt
   have hvl:=fun n j=>varP_le (n:=n) (j:=j) hlt
   have hge : i < bl t i + 1:=by omega
   generalize bl t i + 1 = k1 at *
   generalize bl t i = k0 at *
   cases hv : varP t k1 with
   | error q=>
    obtain ⟨q,q2⟩:=q
    rw [hv] at ev
    simp only [ToldA] at ev
    simp only [quaP]
    (refine Sg.h ?_;try repeat' ((with_reducible first|refine brA ?_|refine brE fun _=>?_|refine spl ⟨?_,?_⟩<;>intro _)<;>((try simp -implicitDefEqProofs);(try simp -implicitDefEqProofs(disch:=first|assumption|(try simp only[lens]);omega -splitDisjunctions)))))
    refine CL.sub [0] m0 ?_
    (refine Sg.h ?_;try repeat' ((with_reducible first|refine brA ?_|refine brE fun _=>?_|refine spl ⟨?_,?_⟩<;>intro _)<;>((try simp -implicitDefEqProofs);(try simp -implicitDefEqProofs(disch:=first|assumption|(try simp only[lens]);omega -splitDisjunctions)))))
    refine CL.sub [0] m1 ?_
    (refine Sg.h ?_;try repeat' ((with_reducible first|refine brA ?_|refine brE fun _=>?_|refine spl ⟨?_,?_⟩<;>intro _)<;>((try simp -implicitDefEqProofs);(try simp -implicitDefEqProofs(disch:=first|assumption|(try simp only[lens]);omega -splitDisjunctions)))))
    refine CL.psub [0] ev ?_
    (refine Sg.h ?_;try repeat' ((with_reducible first|refine brA ?_|refine brE fun _=>?_|refine spl ⟨?_,?_⟩<;>intro _)<;>((try simp -implicitDefEqProofs);(try simp -implicitDefEqProofs(disch:=first|assumption|(try simp only[lens]);omega -splitDisjunctions)))))
   | ok r=>
    obtain ⟨nm,j0⟩:=r
    rw [hv] at ev
    obtain ⟨ev,ev2,ev3⟩:=ev
    have e1:=hn j0 (by omega) ev3
    simp only [quaP]
    cases hp1 : pn j0 with
    | error q=>
     obtain ⟨q,q2⟩:=q
     rw [hp1] at e1
     simp only [ToldA] at e1
     (refine Sg.h ?_;try repeat' ((with_reducible first|refine brA ?_|refine brE fun _=>?_|refine spl ⟨?_,?_⟩<;>intro _)<;>((try simp -implicitDefEqProofs);(try simp -implicitDefEqProofs(disch:=first|assumption|(try simp only[lens]);omega -splitDisjunctions)))))
     refine CL.sub [0] m0 ?_
     (refine Sg.h ?_;try repeat' ((with_reducible first|refine brA ?_|refine brE fun _=>?_|refine spl ⟨?_,?_⟩<;>intro _)<;>((try simp -implicitDefEqProofs);(try simp -implicitDefEqProofs(disch:=first|assumption|(try simp only[lens]);omega -splitDisjunctions)))))
     refine CL.sub [0] m1 ?_
     (refine Sg.h ?_;try repeat' ((with_reducible first|refine brA ?_|refine brE fun _=>?_|refine spl ⟨?_,?_⟩<;>intro _)<;>((try simp -implicitDefEqProofs);(try simp -implicitDefEqProofs(disch:=first|assumption|(try simp only[lens]);omega -splitDisjunctions)))))
     refine CL.sub [0] ev ?_
     (refine Sg.h ?_;try repeat' ((with_reducible first|refine brA ?_|refine brE fun _=>?_|refine spl ⟨?_,?_⟩<;>intro _)<;>((try simp -implicitDefEqProofs);(try simp -implicitDefEqProofs(disch:=first|assumption|(try simp only[lens]);omega -splitDisjunctions)))))
     refine CL.psub [0] e1 ?_
     (refine Sg.h ?_;try repeat' ((with_reducible first|refine brA ?_|refine brE fun _=>?_|refine spl ⟨?_,?_⟩<;>intro _)<;>((try simp -implicitDefEqProofs);(try simp -implicitDefEqProofs(disch:=first|assumption|(try simp only[lens]);omega -splitDisjunctions)))))
    | ok r=>
     obtain ⟨g,j1⟩:=r
     rw [hp1] at e1
     obtain ⟨e1,e2,e3⟩:=e1
     (refine Sg.h ?_;try repeat' ((with_reducible first|refine brA ?_|refine brE fun _=>?_|refine spl ⟨?_,?_⟩<;>intro _)<;>((try simp -implicitDefEqProofs);(try simp -implicitDefEqProofs(disch:=first|assumption|(try simp only[lens]);omega -splitDisjunctions)))))
     refine CL.sub [0] m0 ?_
     (refine Sg.h ?_;try repeat' ((with_reducible first|refine brA ?_|refine brE fun _=>?_|refine spl ⟨?_,?_⟩<;>intro _)<;>((try simp -implicitDefEqProofs);(try simp -implicitDefEqProofs(disch:=first|assumption|(try simp only[lens]);omega -splitDisjunctions)))))
     refine CL.sub [0] m1 ?_
     (refine Sg.h ?_;try repeat' ((with_reducible first|refine brA ?_|refine brE fun _=>?_|refine spl ⟨?_,?_⟩<;>intro _)<;>((try simp -implicitDefEqProofs);(try simp -implicitDefEqProofs(disch:=first|assumption|(try simp only[lens]);omega -splitDisjunctions)))))
     refine CL.sub [0] ev ?_
     (refine Sg.h ?_;try repeat' ((with_reducible first|refine brA ?_|refine brE fun _=>?_|refine spl ⟨?_,?_⟩<;>intro _)<;>((try simp -implicitDefEqProofs);(try simp -implicitDefEqProofs(disch:=first|assumption|(try simp only[lens]);omega -splitDisjunctions)))))
     refine CL.sub [0] e1 ?_
     (refine Sg.h ?_;try repeat' ((with_reducible first|refine brA ?_|refine brE fun _=>?_|refine spl ⟨?_,?_⟩<;>intro _)<;>((try simp -implicitDefEqProofs);(try simp -implicitDefEqProofs(disch:=first|assumption|(try simp only[lens]);omega -splitDisjunctions)))))
     all_goals (rw [exr_eq (.mk _ _ _ _)];rfl)
  | false=>
   cases h2 : hp t (bl t i) ⟨#[63]⟩ with
   | true=>
    have hlt : bl t i + 1 ≤ t.size:=hp_len h2
    have m0:=hmay ⟨#[126]⟩ (by decide)
    have m1:=may_firstAt t (bl t i) ⟨#[33]⟩ hs hb2 hbb (by decide) false h1
    have m2:=may_firstAt t (bl t i) ⟨#[63]⟩ hs hb2 hbb (by decide) true h2
    simp only [h0,h1,h2,Bool.false_eq_true,if_false,if_true] at m0 m1 m2 ⊢
    change CallOK _ _ _ _ _ [rd t (bl t i + 1)] at m2
    have ev:=variable_first t (bl t i + 1) hs hlt
    have hvl:=fun n j=>varP_le (n:=n) (j:=j) hlt
    have hge : i < bl t i + 1:=by omega
    generalize bl t i + 1 = k1 at *
    generalize bl t i = k0 at *
    cases hv : varP t k1 with
    | error q=>
     obtain ⟨q,q2⟩:=q
     rw [hv] at ev
     simp only [ToldA] at ev
     simp only [quaP]
     (refine Sg.h ?_;try repeat' ((with_reducible first|refine brA ?_|refine brE fun _=>?_|refine spl ⟨?_,?_⟩<;>intro _)<;>((try simp -implicitDefEqProofs);(try simp -implicitDefEqProofs(disch:=first|assumption|(try simp only[lens]);omega -splitDisjunctions)))))
     refine CL.sub [0] m0 ?_
     (refine Sg.h ?_;try repeat' ((with_reducible first|refine brA ?_|refine brE fun _=>?_|refine spl ⟨?_,?_⟩<;>intro _)<;>((try simp -implicitDefEqProofs);(try simp -implicitDefEqProofs(disch:=first|assumption|(try simp only[lens]);omega -splitDisjunctions)))))
     refine CL.sub [0] m1 ?_
     (refine Sg.h ?_;try repeat' ((with_reducible first|refine brA ?_|refine brE fun _=>?_|refine spl ⟨?_,?_⟩<;>intro _)<;>((try simp -implicitDefEqProofs);(try simp -implicitDefEqProofs(disch:=first|assumption|(try simp only[lens]);omega -splitDisjunctions)))))
     refine CL.sub [0] m2 ?_
     (refine Sg.h ?_;try repeat' ((with_reducible first|refine brA ?_|refine brE fun _=>?_|refine spl ⟨?_,?_⟩<;>intro _)<;>((try simp -implicitDefEqProofs);(try simp -implicitDefEqProofs(disch:=first|assumption|(try simp only[lens]);omega -splitDisjunctions)))))
     refine CL.psub [0] ev ?_
     (refine Sg.h ?_;try repeat' ((with_reducible first|refine brA ?_|refine brE fun _=>?_|refine spl ⟨?_,?_⟩<;>intro _)<;>((try simp -implicitDefEqProofs);(try simp -implicitDefEqProofs(disch:=first|assumption|(try simp only[lens]);omega -splitDisjunctions)))))
    | ok r=>
     obtain ⟨nm,j0⟩:=r
     rw [hv] at ev
     obtain ⟨ev,ev2,ev3⟩:=ev
     have e1:=hn j0 (by omega) ev3
     simp only [quaP]
     cases hp1 : pn j0 with
     | error q=>
      obtain ⟨q,q2⟩:=q
      rw [hp1] at e1
      simp only [ToldA] at e1
      (refine Sg.h ?_;try repeat' ((with_reducible first|refine brA ?_|refine brE fun _=>?_|refine spl ⟨?_,?_⟩<;>intro _)<;>((try simp -implicitDefEqProofs);(try simp -implicitDefEqProofs(disch:=first|assumption|(try simp only[lens]);omega -splitDisjunctions)))))
      refine CL.sub [0] m0 ?_
      (refine Sg.h ?_;try repeat' ((with_reducible first|refine brA ?_|refine brE fun _=>?_|refine spl ⟨?_,?_⟩<;>intro _)<;>((try simp -implicitDefEqProofs);(try simp -implicitDefEqProofs(disch:=first|assumption|(try simp only[lens]);omega -splitDisjunctions)))))
      refine CL.sub [0] m1 ?_
      (refine Sg.h ?_;try repeat' ((with_reducible first|refine brA ?_|refine brE fun _=>?_|refine spl ⟨?_,?_⟩<;>intro _)<;>((try simp -implicitDefEqProofs);(try simp -implicitDefEqProofs(disch:=first|assumption|(try simp only[lens]);omega -splitDisjunctions)))))
      refine CL.sub [0] m2 ?_
      (refine Sg.h ?_;try repeat' ((with_reducible first|refine brA ?_|refine brE fun _=>?_|refine spl ⟨?_,?_⟩<;>intro _)<;>((try simp -implicitDefEqProofs);(try simp -implicitDefEqProofs(disch:=first|assumption|(try simp only[lens]);omega -splitDisjunctions)))))
      refine CL.sub [0] ev ?_
      (refine Sg.h ?_;try repeat' ((with_reducible first|refine brA ?_|refine brE fun _=>?_|refine spl ⟨?_,?_⟩<;>intro _)<;>((try simp -implicitDefEqProofs);(try simp -implicitDefEqProofs(disch:=first|assumption|(try simp only[lens]);omega -splitDisjunctions)))))
      refine CL.psub [0] e1 ?_
      (refine Sg.h ?_;try repeat' ((with_reducible first|refine brA ?_|refine brE fun _=>?_|refine spl ⟨?_,?_⟩<;>intro _)<;>((try simp -implicitDefEqProofs);(try simp -implicitDefEqProofs(disch:=first|assumption|(try simp only[lens]);omega -splitDisjunctions)))))
     | ok r=>
      obtain ⟨g,j1⟩:=r
      rw [hp1] at e1
      obtain ⟨e1,e2,e3⟩:=e1
      (refine Sg.h ?_;try repeat' ((with_reducible first|refine brA ?_|refine brE fun _=>?_|refine spl ⟨?_,?_⟩<;>intro _)<;>((try simp -implicitDefEqProofs);(try simp -implicitDefEqProofs(disch:=first|assumption|(try simp only[lens]);omega -splitDisjunctions)))))
      refine CL.sub [0] m0 ?_
      (refine Sg.h ?_;try repeat' ((with_reducible first|refine brA ?_|refine brE fun _=>?_|refine spl ⟨?_,?_⟩<;>intro _)<;>((try simp -implicitDefEqProofs);(try simp -implicitDefEqProofs(disch:=first|assumption|(try simp only[lens]);omega -splitDisjunctions)))))
      refine CL.sub [0] m1 ?_
      (refine Sg.h ?_;try repeat' ((with_reducible first|refine brA ?_|refine brE fun _=>?_|refine spl ⟨?_,?_⟩<;>intro _)<;>((try simp -implicitDefEqProofs);(try simp -implicitDefEqProofs(disch:=first|assumption|(try simp only[lens]);omega -splitDisjunctions)))))
      refine CL.sub [0] m2 ?_
      (refine Sg.h ?_;try repeat' ((with_reducible first|refine brA ?_|refine brE fun _=>?_|refine spl ⟨?_,?_⟩<;>intro _)<;>((try simp -implicitDefEqProofs);(try simp -implicitDefEqProofs(disch:=first|assumption|(try simp only[lens]);omega -splitDisjunctions)))))
      refine CL.sub [0] ev ?_
      (refine Sg.h ?_;try repeat' ((with_reducible first|refine brA ?_|refine brE fun _=>?_|refine spl ⟨?_,?_⟩<;>intro _)<;>((try simp -implicitDefEqProofs);(try simp -implicitDefEqProofs(disch:=first|assumption|(try simp only[lens]);omega -splitDisjunctions)))))
      refine CL.sub [0] e1 ?_
      (refine Sg.h ?_;try repeat' ((with_reducible first|refine brA ?_|refine brE fun _=>?_|refine spl ⟨?_,?_⟩<;>intro _)<;>((try simp -implicitDefEqProofs);(try simp -implicitDefEqProofs(disch:=first|assumption|(try simp only[lens]);omega -splitDisjunctions)))))
      all_goals (rw [exr_eq (.mk _ _ _ _)];rfl)
   | false=>
    cases h3 : hp t (bl t i) ⟨#[40]⟩ with
    | true=>
     have hlt : bl t i + 1 ≤ t.size:=hp_len h3
     have m0:=hmay ⟨#[126]⟩ (by decide)
     have m1:=may_firstAt t (bl t i) ⟨#[33]⟩ hs hb2 hbb (by decide) false h1
     have m2:=may_firstAt t (bl t i) ⟨#[63]⟩ hs hb2 hbb (by decide) false h2
     have m3:=may_firstAt t (bl t i) ⟨#[40]⟩ hs hb2 hbb (by decide) true h3
     simp only [h0,h1,h2,h3,Bool.false_eq_true,if_false,if_true] at m0 m1 m2 m3 ⊢
     change CallOK _ _ _ _ _ [rd t (bl t i + 1)] at m3
     have e1:=ht (bl t i + 1) (by omega) hlt
     generalize bl t i + 1 = k1 at *
     generalize bl t i = k0 at *
     cases hp1 : pt k1 with
     | error q=>
      obtain ⟨q,q2⟩:=q
      rw [hp1] at e1
      simp only [ToldA] at e1
      simp only [xpar]
      (refine Sg.h ?_;try repeat' ((with_reducible first|refine brA ?_|refine brE fun _=>?_|refine spl ⟨?_,?_⟩<;>intro _)<;>((try simp -implicitDefEqProofs);(try simp -implicitDefEqProofs(disch:=first|assumption|(try simp only[lens]);omega -splitDisjunctions)))))
      refine CL.sub [0] m0 ?_
      (refine Sg.h ?_;try repeat' ((with_reducible first|refine brA ?_|refine brE fun _=>?_|refine spl ⟨?_,?_⟩<;>intro _)<;>((try simp -implicitDefEqProofs);(try simp -implicitDefEqProofs(disch:=first|assumption|(try simp only[lens]);omega -splitDisjunctions)))))
      refine CL.sub [0] m1 ?_
      (refine Sg.h ?_;try repeat' ((with_reducible first|refine brA ?_|refine brE fun _=>?_|refine spl ⟨?_,?_⟩<;>intro _)<;>((try simp -implicitDefEqProofs);(try simp -implicitDefEqProofs(disch:=first|assumption|(try simp only[lens]);omega -splitDisjunctions)))))
      refine CL.sub [0] m2 ?_
      (refine Sg.h ?_;try repeat' ((with_reducible first|refine brA ?_|refine brE fun _=>?_|refine spl ⟨?_,?_⟩<;>intro _)<;>((try simp -implicitDefEqProofs);(try simp -implicitDefEqProofs(disch:=first|assumption|(try simp only[lens]);omega -splitDisjunctions)))))
      refine CL.sub [0] m3 ?_
      (refine Sg.h ?_;try repeat' ((with_reducible first|refine brA ?_|refine brE fun _=>?_|refine spl ⟨?_,?_⟩<;>intro _)<;>((try simp -implicitDefEqProofs);(try simp -implicitDefEqProofs(disch:=first|assumption|(try simp only[lens]);omega -splitDisjunctions)))))
      refine CL.psub [0] e1 ?_
      (refine Sg.h ?_;try repeat' ((with_reducible first|refine brA ?_|refine brE fun _=>?_|refine spl ⟨?_,?_⟩<;>intro _)<;>((try simp -implicitDefEqProofs);(try simp -implicitDefEqProofs(disch:=first|assumption|(try simp only[lens]);omega -splitDisjunctions)))))
     | ok r=>
      obtain ⟨g,j1⟩:=r
      rw [hp1] at e1
      obtain ⟨e1,e2,e3⟩:=e1
      have hm:=must_first t ⟨#[41]⟩ j1 hs e3 (by decide)
      have hg:=exr_eq g
      simp only [xpar]
      cases hm1 : mustP t ⟨#[41]⟩ j1 with
      | error q=>
       obtain ⟨q,q2⟩:=q
       rw [hm1] at hm
       simp only [ToldA] at hm
       (refine Sg.h ?_;try repeat' ((with_reducible first|refine brA ?_|refine brE fun _=>?_|refine spl ⟨?_,?_⟩<;>intro _)<;>((try simp -implicitDefEqProofs);(try simp -implicitDefEqProofs(disch:=first|assumption|(try simp only[lens]);omega -splitDisjunctions)))))
       refine CL.sub [0] m0 ?_
       (refine Sg.h ?_;try repeat' ((with_reducible first|refine brA ?_|refine brE fun _=>?_|refine spl ⟨?_,?_⟩<;>intro _)<;>((try simp -implicitDefEqProofs);(try simp -implicitDefEqProofs(disch:=first|assumption|(try simp only[lens]);omega -splitDisjunctions)))))
       refine CL.sub [0] m1 ?_
       (refine Sg.h ?_;try repeat' ((with_reducible first|refine brA ?_|refine brE fun _=>?_|refine spl ⟨?_,?_⟩<;>intro _)<;>((try simp -implicitDefEqProofs);(try simp -implicitDefEqProofs(disch:=first|assumption|(try simp only[lens]);omega -splitDisjunctions)))))
       refine CL.sub [0] m2 ?_
       (refine Sg.h ?_;try repeat' ((with_reducible first|refine brA ?_|refine brE fun _=>?_|refine spl ⟨?_,?_⟩<;>intro _)<;>((try simp -implicitDefEqProofs);(try simp -implicitDefEqProofs(disch:=first|assumption|(try simp only[lens]);omega -splitDisjunctions)))))
       refine CL.sub [0] m3 ?_
       (refine Sg.h ?_;try repeat' ((with_reducible first|refine brA ?_|refine brE fun _=>?_|refine spl ⟨?_,?_⟩<;>intro _)<;>((try simp -implicitDefEqProofs);(try simp -implicitDefEqProofs(disch:=first|assumption|(try simp only[lens]);omega -splitDisjunctions)))))
       refine CL.sub [0] e1 ?_
       (refine Sg.h ?_;try repeat' ((with_reducible first|refine brA ?_|refine brE fun _=>?_|refine spl ⟨?_,?_⟩<;>intro _)<;>((try simp -implicitDefEqProofs);(try simp -implicitDefEqProofs(disch:=first|assumption|(try simp only[lens]);omega -splitDisjunctions)))))
       refine CL.psub [0] hm ?_
       (refine Sg.h ?_;try repeat' ((with_reducible first|refine brA ?_|refine brE fun _=>?_|refine spl ⟨?_,?_⟩<;>intro _)<;>((try simp -implicitDefEqProofs);(try simp -implicitDefEqProofs(disch:=first|assumption|(try simp only[lens]);omega -splitDisjunctions)))))
      | ok r=>
       obtain ⟨u,j2⟩:=r
       rw [hm1] at hm
       obtain ⟨hm,hm2,hm3⟩:=hm
       (refine Sg.h ?_;try repeat' ((with_reducible first|refine brA ?_|refine brE fun _=>?_|refine spl ⟨?_,?_⟩<;>intro _)<;>((try simp -implicitDefEqProofs);(try simp -implicitDefEqProofs(disch:=first|assumption|(try simp only[lens]);omega -splitDisjunctions)))))
       refine CL.sub [0] m0 ?_
       (refine Sg.h ?_;try repeat' ((with_reducible first|refine brA ?_|refine brE fun _=>?_|refine spl ⟨?_,?_⟩<;>intro _)<;>((try simp -implicitDefEqProofs);(try simp -implicitDefEqProofs(disch:=first|assumption|(try simp only[lens]);omega -splitDisjunctions)))))
       refine CL.sub [0] m1 ?_
       (refine Sg.h ?_;try repeat' ((with_reducible first|refine brA ?_|refine brE fun _=>?_|refine spl ⟨?_,?_⟩<;>intro _)<;>((try simp -implicitDefEqProofs);(try simp -implicitDefEqProofs(disch:=first|assumption|(try simp only[lens]);omega -splitDisjunctions)))))
       refine CL.sub [0] m2 ?_
       (refine Sg.h ?_;try repeat' ((with_reducible first|refine brA ?_|refine brE fun _=>?_|refine spl ⟨?_,?_⟩<;>intro _)<;>((try simp -implicitDefEqProofs);(try simp -implicitDefEqProofs(disch:=first|assumption|(try simp only[lens]);omega -splitDisjunctions)))))
       refine CL.sub [0] m3 ?_
       (refine Sg.h ?_;try repeat' ((with_reducible first|refine brA ?_|refine brE fun _=>?_|refine spl ⟨?_,?_⟩<;>intro _)<;>((try simp -implicitDefEqProofs);(try simp -implicitDefEqProofs(disch:=first|assumption|(try simp only[lens]);omega -splitDisjunctions)))))
       refine CL.sub [0] e1 ?_
       (refine Sg.h ?_;try repeat' ((with_reducible first|refine brA ?_|refine brE fun _=>?_|refine spl ⟨?_,?_⟩<;>intro _)<;>((try simp -implicitDefEqProofs);(try simp -implicitDefEqProofs(disch:=first|assumption|(try simp only[lens]);omega -splitDisjunctions)))))
       refine CL.sub [0] hm ?_
       (refine Sg.h ?_;try repeat' ((with_reducible first|refine brA ?_|refine brE fun _=>?_|refine spl ⟨?_,?_⟩<;>intro _)<;>((try simp -implicitDefEqProofs);(try simp -implicitDefEqProofs(disch:=first|assumption|(try simp only[lens]);omega -splitDisjunctions)))))
    | false=>
     cases h4 : hp t (bl t i) ⟨#[49]⟩ with
     | true=>
      have hlt : bl t i + 1 ≤ t.size:=hp_len h4
      have m0:=hmay ⟨#[126]⟩ (by decide)
      have m1:=may_firstAt t (bl t i) ⟨#[33]⟩ hs hb2 hbb (by decide) false h1
      have m2:=may_firstAt t (bl t i) ⟨#[63]⟩ hs hb2 hbb (by decide) false h2
      have m3:=may_firstAt t (bl t i) ⟨#[40]⟩ hs hb2 hbb (by decide) false h3
      have m4:=may_firstAt t (bl t i) ⟨#[49]⟩ hs hb2 hbb (by decide) true h4
      simp only [h0,h1,h2,h3,h4,Bool.false_eq_true,if_false,if_true] at m0 m1 m2 m3 m4 ⊢
      change CallOK _ _ _ _ _ [rd t (bl t i + 1)] at m4
      generalize bl t i + 1 = k1 at *
      generalize bl t i = k0 at *
      (refine Sg.h ?_;try repeat' ((with_reducible first|refine brA ?_|refine brE fun _=>?_|refine spl ⟨?_,?_⟩<;>intro _)<;>((try simp -implicitDefEqProofs);(try simp -implicitDefEqProofs(disch:=first|assumption|(try simp only[lens]);omega -splitDisjunctions)))))
      refine CL.sub [0] m0 ?_
      (refine Sg.h ?_;try repeat' ((with_reducible first|refine brA ?_|refine brE fun _=>?_|refine spl ⟨?_,?_⟩<;>intro _)<;>((try simp -implicitDefEqProofs);(try simp -implicitDefEqProofs(disch:=first|assumption|(try simp only[lens]);omega -splitDisjunctions)))))
      refine CL.sub [0] m1 ?_
      (refine Sg.h ?_;try repeat' ((with_reducible first|refine brA ?_|refine brE fun _=>?_|refine spl ⟨?_,?_⟩<;>intro _)<;>((try simp -implicitDefEqProofs);(try simp -implicitDefEqProofs(disch:=first|assumption|(try simp only[lens]);omega -splitDisjunctions)))))
      refine CL.sub [0] m2 ?_
      (refine Sg.h ?_;try repeat' ((with_reducible first|refine brA ?_|refine brE fun _=>?_|refine spl ⟨?_,?_⟩<;>intro _)<;>((try simp -implicitDefEqProofs);(try simp -implicitDefEqProofs(disch:=first|assumption|(try simp only[lens]);omega -splitDisjunctions)))))
      refine CL.sub [0] m3 ?_
      (refine Sg.h ?_;try repeat' ((with_reducible first|refine brA ?_|refine brE fun _=>?_|refine spl ⟨?_,?_⟩<;>intro _)<;>((try simp -implicitDefEqProofs);(try simp -implicitDefEqProofs(disch:=first|assumption|(try simp only[lens]);omega -splitDisjunctions)))))
      refine CL.sub [0] m4 ?_
      (refine Sg.h ?_;try repeat' ((with_reducible first|refine brA ?_|refine brE fun _=>?_|refine spl ⟨?_,?_⟩<;>intro _)<;>((try simp -implicitDefEqProofs);(try simp -implicitDefEqProofs(disch:=first|assumption|(try simp only[lens]);omega -splitDisjunctions)))))
      all_goals (rw [exr_eq (.mk _ _ _ _)];rfl)
     | false=>
      cases h5 : hp t (bl t i) ⟨#[48]⟩ with
      | true=>
       have hlt : bl t i + 1 ≤ t.size:=hp_len h5
       have m0:=hmay ⟨#[126]⟩ (by decide)
       have m1:=may_firstAt t (bl t i) ⟨#[33]⟩ hs hb2 hbb (by decide) false h1
       have m2:=may_firstAt t (bl t i) ⟨#[63]⟩ hs hb2 hbb (by decide) false h2
       have m3:=may_firstAt t (bl t i) ⟨#[40]⟩ hs hb2 hbb (by decide) false h3
       have m4:=may_firstAt t (bl t i) ⟨#[49]⟩ hs hb2 hbb (by decide) false h4
       have m5:=may_firstAt t (bl t i) ⟨#[48]⟩ hs hb2 hbb (by decide) true h5
       simp only [h0,h1,h2,h3,h4,h5,Bool.false_eq_true,if_false,if_true] at m0 m1 m2 m3 m4 m5 ⊢
       change CallOK _ _ _ _ _ [rd t (bl t i + 1)] at m5
       generalize bl t i + 1 = k1 at *
       generalize bl t i = k0 at *
       (refine Sg.h ?_;try repeat' ((with_reducible first|refine brA ?_|refine brE fun _=>?_|refine spl ⟨?_,?_⟩<;>intro _)<;>((try simp -implicitDefEqProofs);(try simp -implicitDefEqProofs(disch:=first|assumption|(try simp only[lens]);omega -splitDisjunctions)))))
       refine CL.sub [0] m0 ?_
       (refine Sg.h ?_;try repeat' ((with_reducible first|refine brA ?_|refine brE fun _=>?_|refine spl ⟨?_,?_⟩<;>intro _)<;>((try simp -implicitDefEqProofs);(try simp -implicitDefEqProofs(disch:=first|assumption|(try simp only[lens]);omega -splitDisjunctions)))))
       refine CL.sub [0] m1 ?_
       (refine Sg.h ?_;try repeat' ((with_reducible first|refine brA ?_|refine brE fun _=>?_|refine spl ⟨?_,?_⟩<;>intro _)<;>((try simp -implicitDefEqProofs);(try simp -implicitDefEqProofs(disch:=first|assumption|(try simp only[lens]);omega -splitDisjunctions)))))
       refine CL.sub [0] m2 ?_
       (refine Sg.h ?_;try repeat' ((with_reducible first|refine brA ?_|refine brE fun _=>?_|refine spl ⟨?_,?_⟩<;>intro _)<;>((try simp -implicitDefEqProofs);(try simp -implicitDefEqProofs(disch:=first|assumption|(try simp only[lens]);omega -splitDisjunctions)))))
       refine CL.sub [0] m3 ?_
       (refine Sg.h ?_;try repeat' ((with_reducible first|refine brA ?_|refine brE fun _=>?_|refine spl ⟨?_,?_⟩<;>intro _)<;>((try simp -implicitDefEqProofs);(try simp -implicitDefEqProofs(disch:=first|assumption|(try simp only[lens]);omega -splitDisjunctions)))))
       refine CL.sub [0] m4 ?_
       (refine Sg.h ?_;try repeat' ((with_reducible first|refine brA ?_|refine brE fun _=>?_|refine spl ⟨?_,?_⟩<;>intro _)<;>((try simp -implicitDefEqProofs);(try simp -implicitDefEqProofs(disch:=first|assumption|(try simp only[lens]);omega -splitDisjunctions)))))
       refine CL.sub [0] m5 ?_
       (refine Sg.h ?_;try repeat' ((with_reducible first|refine brA ?_|refine brE fun _=>?_|refine spl ⟨?_,?_⟩<;>intro _)<;>((try simp -implicitDefEqProofs);(try simp -implicitDefEqProofs(disch:=first|assumption|(try simp only[lens]);omega -splitDisjunctions)))))
       all_goals (rw [exr_eq (.mk _ _ _ _)];rfl)
      | false=>
       have m0:=hmay ⟨#[126]⟩ (by decide)
       have m1:=may_firstAt t (bl t i) ⟨#[33]⟩ hs hb2 hbb (by decide) false h1
       have m2:=may_firstAt t (bl t i) ⟨#[63]⟩ hs hb2 hbb (by decide) false h2
       have m3:=may_firstAt t (bl t i) ⟨#[40]⟩ hs hb2 hbb (by decide) false h3
       have m4:=may_firstAt t (bl t i) ⟨#[49]⟩ hs hb2 hbb (by decide) false h4
       have m5:=may_firstAt t (bl t i) ⟨#[48]⟩ hs hb2 hbb (by decide) false h5
       simp only [h0,h1,h2,h3,h4,h5,Bool.false_eq_true,if_false] at m0 m1 m2 m3 m4 m5 ⊢
       have ew:=wd_told t hs (bl t i) hb2
       generalize bl t i = k0 at *
       cases hw : wdP t k0 with
       | error q=>
        obtain ⟨q,q2⟩:=q
        rw [hw] at ew
        simp only [ToldA] at ew
        simp only [xatom]
        (refine Sg.h ?_;try repeat' ((with_reducible first|refine brA ?_|refine brE fun _=>?_|refine spl ⟨?_,?_⟩<;>intro _)<;>((try simp -implicitDefEqProofs);(try simp -implicitDefEqProofs(disch:=first|assumption|(try simp only[lens]);omega -splitDisjunctions)))))
        refine CL.sub [0] m0 ?_
        (refine Sg.h ?_;try repeat' ((with_reducible first|refine brA ?_|refine brE fun _=>?_|refine spl ⟨?_,?_⟩<;>intro _)<;>((try simp -implicitDefEqProofs);(try simp -implicitDefEqProofs(disch:=first|assumption|(try simp only[lens]);omega -splitDisjunctions)))))
        refine CL.sub [0] m1 ?_
        (refine Sg.h ?_;try repeat' ((with_reducible first|refine brA ?_|refine brE fun _=>?_|refine spl ⟨?_,?_⟩<;>intro _)<;>((try simp -implicitDefEqProofs);(try simp -implicitDefEqProofs(disch:=first|assumption|(try simp only[lens]);omega -splitDisjunctions)))))
        refine CL.sub [0] m2 ?_
        (refine Sg.h ?_;try repeat' ((with_reducible first|refine brA ?_|refine brE fun _=>?_|refine spl ⟨?_,?_⟩<;>intro _)<;>((try simp -implicitDefEqProofs);(try simp -implicitDefEqProofs(disch:=first|assumption|(try simp only[lens]);omega -splitDisjunctions)))))
        refine CL.sub [0] m3 ?_
        (refine Sg.h ?_;try repeat' ((with_reducible first|refine brA ?_|refine brE fun _=>?_|refine spl ⟨?_,?_⟩<;>intro _)<;>((try simp -implicitDefEqProofs);(try simp -implicitDefEqProofs(disch:=first|assumption|(try simp only[lens]);omega -splitDisjunctions)))))
        refine CL.sub [0] m4 ?_
        (refine Sg.h ?_;try repeat' ((with_reducible first|refine brA ?_|refine brE fun _=>?_|refine spl ⟨?_,?_⟩<;>intro _)<;>((try simp -implicitDefEqProofs);(try simp -implicitDefEqProofs(disch:=first|assumption|(try simp only[lens]);omega -splitDisjunctions)))))
        refine CL.sub [0] m5 ?_
        (refine Sg.h ?_;try repeat' ((with_reducible first|refine brA ?_|refine brE fun _=>?_|refine spl ⟨?_,?_⟩<;>intro _)<;>((try simp -implicitDefEqProofs);(try simp -implicitDefEqProofs(disch:=first|assumption|(try simp only[lens]);omega -splitDisjunctions)))))
        refine CL.psub [0] ew ?_
        (refine Sg.h ?_;try repeat' ((with_reducible first|refine brA ?_|refine brE fun _=>?_|refine spl ⟨?_,?_⟩<;>intro _)<;>((try simp -implicitDefEqProofs);(try simp -implicitDefEqProofs(disch:=first|assumption|(try simp only[lens]);omega -splitDisjunctions)))))
       | ok r=>
        obtain ⟨w,j0⟩:=r
        rw [hw] at ew
        obtain ⟨ew,ew2,ew3⟩:=ew
        have me:=may_first t j0 ⟨#[61]⟩ hs ew3 (by decide)
        unfold mayN at me
        simp only [xatom]
        have hwe:=wrd_eq w
        have hnm:=isName_formula w.nm []
        cases hh : hp t (bl t j0) ⟨#[61]⟩ with
        | true=>
         have hlt : bl t j0 + 1 ≤ t.size:=hp_len hh
         simp only [hh,if_true] at me ⊢
         change CallOK _ _ _ _ _ [rd t (bl t j0 + 1)] at me
         have ev:=wd_told t hs (bl t j0 + 1) hlt
         generalize bl t j0 + 1 = k1 at *
         cases hv : wdP t k1 with
         | error q=>
          obtain ⟨q,q2⟩:=q
          rw [hv] at ev
          simp only [ToldA] at ev
          (refine Sg.h ?_;try repeat' ((with_reducible first|refine brA ?_|refine brE fun _=>?_|refine spl ⟨?_,?_⟩<;>intro _)<;>((try simp -implicitDefEqProofs);(try simp -implicitDefEqProofs(disch:=first|assumption|(try simp only[lens]);omega -splitDisjunctions)))))
          refine CL.sub [0] m0 ?_
          (refine Sg.h ?_;try repeat' ((with_reducible first|refine brA ?_|refine brE fun _=>?_|refine spl ⟨?_,?_⟩<;>intro _)<;>((try simp -implicitDefEqProofs);(try simp -implicitDefEqProofs(disch:=first|assumption|(try simp only[lens]);omega -splitDisjunctions)))))
          refine CL.sub [0] m1 ?_
          (refine Sg.h ?_;try repeat' ((with_reducible first|refine brA ?_|refine brE fun _=>?_|refine spl ⟨?_,?_⟩<;>intro _)<;>((try simp -implicitDefEqProofs);(try simp -implicitDefEqProofs(disch:=first|assumption|(try simp only[lens]);omega -splitDisjunctions)))))
          refine CL.sub [0] m2 ?_
          (refine Sg.h ?_;try repeat' ((with_reducible first|refine brA ?_|refine brE fun _=>?_|refine spl ⟨?_,?_⟩<;>intro _)<;>((try simp -implicitDefEqProofs);(try simp -implicitDefEqProofs(disch:=first|assumption|(try simp only[lens]);omega -splitDisjunctions)))))
          refine CL.sub [0] m3 ?_
          (refine Sg.h ?_;try repeat' ((with_reducible first|refine brA ?_|refine brE fun _=>?_|refine spl ⟨?_,?_⟩<;>intro _)<;>((try simp -implicitDefEqProofs);(try simp -implicitDefEqProofs(disch:=first|assumption|(try simp only[lens]);omega -splitDisjunctions)))))
          refine CL.sub [0] m4 ?_
          (refine Sg.h ?_;try repeat' ((with_reducible first|refine brA ?_|refine brE fun _=>?_|refine spl ⟨?_,?_⟩<;>intro _)<;>((try simp -implicitDefEqProofs);(try simp -implicitDefEqProofs(disch:=first|assumption|(try simp only[lens]);omega -splitDisjunctions)))))
          refine CL.sub [0] m5 ?_
          (refine Sg.h ?_;try repeat' ((with_reducible first|refine brA ?_|refine brE fun _=>?_|refine spl ⟨?_,?_⟩<;>intro _)<;>((try simp -implicitDefEqProofs);(try simp -implicitDefEqProofs(disch:=first|assumption|(try simp only[lens]);omega -splitDisjunctions)))))
          refine CL.sub [0] ew ?_
          (refine Sg.h ?_;try repeat' ((with_reducible first|refine brA ?_|refine brE fun _=>?_|refine spl ⟨?_,?_⟩<;>intro _)<;>((try simp -implicitDefEqProofs);(try simp -implicitDefEqProofs(disch:=first|assumption|(try simp only[lens]);omega -splitDisjunctions)))))
          refine CL.sub [0] me ?_
          (refine Sg.h ?_;try repeat' ((with_reducible first|refine brA ?_|refine brE fun _=>?_|refine spl ⟨?_,?_⟩<;>intro _)<;>((try simp -implicitDefEqProofs);(try simp -implicitDefEqProofs(disch:=first|assumption|(try simp only[lens]);omega -splitDisjunctions)))))
          refine CT.psub [0] ev ?_
          (refine Sg.h ?_;try repeat' ((with_reducible first|refine brA ?_|refine brE fun _=>?_|refine spl ⟨?_,?_⟩<;>intro _)<;>((try simp -implicitDefEqProofs);(try simp -implicitDefEqProofs(disch:=first|assumption|(try simp only[lens]);omega -splitDisjunctions)))))
         | ok r=>
          obtain ⟨v,k2⟩:=r
          rw [hv] at ev
          obtain ⟨ev,ev2,ev3⟩:=ev
          (refine Sg.h ?_;try repeat' ((with_reducible first|refine brA ?_|refine brE fun _=>?_|refine spl ⟨?_,?_⟩<;>intro _)<;>((try simp -implicitDefEqProofs);(try simp -implicitDefEqProofs(disch:=first|assumption|(try simp only[lens]);omega -splitDisjunctions)))))
          refine CL.sub [0] m0 ?_
          (refine Sg.h ?_;try repeat' ((with_reducible first|refine brA ?_|refine brE fun _=>?_|refine spl ⟨?_,?_⟩<;>intro _)<;>((try simp -implicitDefEqProofs);(try simp -implicitDefEqProofs(disch:=first|assumption|(try simp only[lens]);omega -splitDisjunctions)))))
          refine CL.sub [0] m1 ?_
          (refine Sg.h ?_;try repeat' ((with_reducible first|refine brA ?_|refine brE fun _=>?_|refine spl ⟨?_,?_⟩<;>intro _)<;>((try simp -implicitDefEqProofs);(try simp -implicitDefEqProofs(disch:=first|assumption|(try simp only[lens]);omega -splitDisjunctions)))))
          refine CL.sub [0] m2 ?_
          (refine Sg.h ?_;try repeat' ((with_reducible first|refine brA ?_|refine brE fun _=>?_|refine spl ⟨?_,?_⟩<;>intro _)<;>((try simp -implicitDefEqProofs);(try simp -implicitDefEqProofs(disch:=first|assumption|(try simp only[lens]);omega -splitDisjunctions)))))
          refine CL.sub [0] m3 ?_
          (refine Sg.h ?_;try repeat' ((with_reducible first|refine brA ?_|refine brE fun _=>?_|refine spl ⟨?_,?_⟩<;>intro _)<;>((try simp -implicitDefEqProofs);(try simp -implicitDefEqProofs(disch:=first|assumption|(try simp only[lens]);omega -splitDisjunctions)))))
          refine CL.sub [0] m4 ?_
          (refine Sg.h ?_;try repeat' ((with_reducible first|refine brA ?_|refine brE fun _=>?_|refine spl ⟨?_,?_⟩<;>intro _)<;>((try simp -implicitDefEqProofs);(try simp -implicitDefEqProofs(disch:=first|assumption|(try simp only[lens]);omega -splitDisjunctions)))))
          refine CL.sub [0] m5 ?_
          (refine Sg.h ?_;try repeat' ((with_reducible first|refine brA ?_|refine brE fun _=>?_|refine spl ⟨?_,?_⟩<;>intro _)<;>((try simp -implicitDefEqProofs);(try simp -implicitDefEqProofs(disch:=first|assumption|(try simp only[lens]);omega -splitDisjunctions)))))
          refine CL.sub [0] ew ?_
          (refine Sg.h ?_;try repeat' ((with_reducible first|refine brA ?_|refine brE fun _=>?_|refine spl ⟨?_,?_⟩<;>intro _)<;>((try simp -implicitDefEqProofs);(try simp -implicitDefEqProofs(disch:=first|assumption|(try simp only[lens]);omega -splitDisjunctions)))))
          refine CL.sub [0] me ?_
          (refine Sg.h ?_;try repeat' ((with_reducible first|refine brA ?_|refine brE fun _=>?_|refine spl ⟨?_,?_⟩<;>intro _)<;>((try simp -implicitDefEqProofs);(try simp -implicitDefEqProofs(disch:=first|assumption|(try simp only[lens]);omega -splitDisjunctions)))))
          refine CT.sub [0] ev ?_
          (refine Sg.h ?_;try repeat' ((with_reducible first|refine brA ?_|refine brE fun _=>?_|refine spl ⟨?_,?_⟩<;>intro _)<;>((try simp -implicitDefEqProofs);(try simp -implicitDefEqProofs(disch:=first|assumption|(try simp only[lens]);omega -splitDisjunctions)))))
          all_goals (rw [exr_eq (.mk _ _ _ _)];rfl)
        | false=>
         simp only [hh,Bool.false_eq_true,if_false] at me ⊢
         have hf:=fail_first t (bl t j0) (bl t j0)
         generalize bl t j0 = k1 at *
         cases hn1 : isNameB w.nm with
         | true=>
          rw [hn1] at hnm
          rw [if_pos rfl]
          (refine Sg.h ?_;try repeat' ((with_reducible first|refine brA ?_|refine brE fun _=>?_|refine spl ⟨?_,?_⟩<;>intro _)<;>((try simp -implicitDefEqProofs);(try simp -implicitDefEqProofs(disch:=first|assumption|(try simp only[lens]);omega -splitDisjunctions)))))
          refine CL.sub [0] m0 ?_
          (refine Sg.h ?_;try repeat' ((with_reducible first|refine brA ?_|refine brE fun _=>?_|refine spl ⟨?_,?_⟩<;>intro _)<;>((try simp -implicitDefEqProofs);(try simp -implicitDefEqProofs(disch:=first|assumption|(try simp only[lens]);omega -splitDisjunctions)))))
          refine CL.sub [0] m1 ?_
          (refine Sg.h ?_;try repeat' ((with_reducible first|refine brA ?_|refine brE fun _=>?_|refine spl ⟨?_,?_⟩<;>intro _)<;>((try simp -implicitDefEqProofs);(try simp -implicitDefEqProofs(disch:=first|assumption|(try simp only[lens]);omega -splitDisjunctions)))))
          refine CL.sub [0] m2 ?_
          (refine Sg.h ?_;try repeat' ((with_reducible first|refine brA ?_|refine brE fun _=>?_|refine spl ⟨?_,?_⟩<;>intro _)<;>((try simp -implicitDefEqProofs);(try simp -implicitDefEqProofs(disch:=first|assumption|(try simp only[lens]);omega -splitDisjunctions)))))
          refine CL.sub [0] m3 ?_
          (refine Sg.h ?_;try repeat' ((with_reducible first|refine brA ?_|refine brE fun _=>?_|refine spl ⟨?_,?_⟩<;>intro _)<;>((try simp -implicitDefEqProofs);(try simp -implicitDefEqProofs(disch:=first|assumption|(try simp only[lens]);omega -splitDisjunctions)))))
          refine CL.sub [0] m4 ?_
          (refine Sg.h ?_;try repeat' ((with_reducible first|refine brA ?_|refine brE fun _=>?_|refine spl ⟨?_,?_⟩<;>intro _)<;>((try simp -implicitDefEqProofs);(try simp -implicitDefEqProofs(disch:=first|assumption|(try simp only[lens]);omega -splitDisjunctions)))))
          refine CL.sub [0] m5 ?_
          (refine Sg.h ?_;try repeat' ((with_reducible first|refine brA ?_|refine brE fun _=>?_|refine spl ⟨?_,?_⟩<;>intro _)<;>((try simp -implicitDefEqProofs);(try simp -implicitDefEqProofs(disch:=first|assumption|(try simp only[lens]);omega -splitDisjunctions)))))
          refine CL.sub [0] ew ?_
          (refine Sg.h ?_;try repeat' ((with_reducible first|refine brA ?_|refine brE fun _=>?_|refine spl ⟨?_,?_⟩<;>intro _)<;>((try simp -implicitDefEqProofs);(try simp -implicitDefEqProofs(disch:=first|assumption|(try simp only[lens]);omega -splitDisjunctions)))))
          refine CL.sub [0] me ?_
          (refine Sg.h ?_;try repeat' ((first|(with_reducible first|refine brA ?_|refine brE fun _=>?_|refine spl ⟨?_,?_⟩<;>intro _)|refine clo hnm ?_)<;>((try simp -implicitDefEqProofs [hwe]);(try simp -implicitDefEqProofs(disch:=first|assumption|(try simp only[lens]);omega -splitDisjunctions) [hwe]))))
          refine CL.psub [0] hf ?_
          (refine Sg.h ?_;try repeat' ((with_reducible first|refine brA ?_|refine brE fun _=>?_|refine spl ⟨?_,?_⟩<;>intro _)<;>((try simp -implicitDefEqProofs);(try simp -implicitDefEqProofs(disch:=first|assumption|(try simp only[lens]);omega -splitDisjunctions)))))
         | false=>
          rw [hn1] at hnm
          rw [if_neg (by decide)]
          (refine Sg.h ?_;try repeat' ((with_reducible first|refine brA ?_|refine brE fun _=>?_|refine spl ⟨?_,?_⟩<;>intro _)<;>((try simp -implicitDefEqProofs);(try simp -implicitDefEqProofs(disch:=first|assumption|(try simp only[lens]);omega -splitDisjunctions)))))
          refine CL.sub [0] m0 ?_
          (refine Sg.h ?_;try repeat' ((with_reducible first|refine brA ?_|refine brE fun _=>?_|refine spl ⟨?_,?_⟩<;>intro _)<;>((try simp -implicitDefEqProofs);(try simp -implicitDefEqProofs(disch:=first|assumption|(try simp only[lens]);omega -splitDisjunctions)))))
          refine CL.sub [0] m1 ?_
          (refine Sg.h ?_;try repeat' ((with_reducible first|refine brA ?_|refine brE fun _=>?_|refine spl ⟨?_,?_⟩<;>intro _)<;>((try simp -implicitDefEqProofs);(try simp -implicitDefEqProofs(disch:=first|assumption|(try simp only[lens]);omega -splitDisjunctions)))))
          refine CL.sub [0] m2 ?_
          (refine Sg.h ?_;try repeat' ((with_reducible first|refine brA ?_|refine brE fun _=>?_|refine spl ⟨?_,?_⟩<;>intro _)<;>((try simp -implicitDefEqProofs);(try simp -implicitDefEqProofs(disch:=first|assumption|(try simp only[lens]);omega -splitDisjunctions)))))
          refine CL.sub [0] m3 ?_
          (refine Sg.h ?_;try repeat' ((with_reducible first|refine brA ?_|refine brE fun _=>?_|refine spl ⟨?_,?_⟩<;>intro _)<;>((try simp -implicitDefEqProofs);(try simp -implicitDefEqProofs(disch:=first|assumption|(try simp only[lens]);omega -splitDisjunctions)))))
          refine CL.sub [0] m4 ?_
          (refine Sg.h ?_;try repeat' ((with_reducible first|refine brA ?_|refine brE fun _=>?_|refine spl ⟨?_,?_⟩<;>intro _)<;>((try simp -implicitDefEqProofs);(try simp -implicitDefEqProofs(disch:=first|assumption|(try simp only[lens]);omega -splitDisjunctions)))))
          refine CL.sub [0] m5 ?_
          (refine Sg.h ?_;try repeat' ((with_reducible first|refine brA ?_|refine brE fun _=>?_|refine spl ⟨?_,?_⟩<;>intro _)<;>((try simp -implicitDefEqProofs);(try simp -implicitDefEqProofs(disch:=first|assumption|(try simp only[lens]);omega -splitDisjunctions)))))
          refine CL.sub [0] ew ?_
          (refine Sg.h ?_;try repeat' ((with_reducible first|refine brA ?_|refine brE fun _=>?_|refine spl ⟨?_,?_⟩<;>intro _)<;>((try simp -implicitDefEqProofs);(try simp -implicitDefEqProofs(disch:=first|assumption|(try simp only[lens]);omega -splitDisjunctions)))))
          refine CL.sub [0] me ?_
          (refine Sg.h ?_;try repeat' ((first|(with_reducible first|refine brA ?_|refine brE fun _=>?_|refine spl ⟨?_,?_⟩<;>intro _)|refine clo hnm ?_)<;>((try simp -implicitDefEqProofs [hwe]);(try simp -implicitDefEqProofs(disch:=first|assumption|(try simp only[lens]);omega -splitDisjunctions) [hwe]))))
          all_goals (rw [exr_eq (.mk _ _ _ _)];rfl)
end Go.Proofs.Ytbimioonhfhflaa
