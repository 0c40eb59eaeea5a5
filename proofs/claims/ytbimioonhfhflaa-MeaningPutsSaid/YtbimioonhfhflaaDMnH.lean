import Derived.Test.YtbimioonhfhflaaDMnG
set_option linter.unusedVariables false
set_option linter.unusedSimpArgs false
set_option maxRecDepth 100000
set_option maxHeartbeats 4000000
namespace Go.Proofs.Ytbimioonhfhflaa
open Go Go.Pv
def updE (E : ByteArray → Int) (x : ByteArray) (v : Int) : ByteArray → Int:=fun y=>if y = x then v else E y
def valH (N : Int) (F : List Fn) (P : List Pd) (k : Int) (nm : ByteArray) (ws : List Wd) (vs : List ((ByteArray → Int) → Bool)) (E : ByteArray → Int) : Bool:=
 if k = 1 then ((predAt nm P).getD default).bits.getD (placeV N F E ws).toNat false
 else if k = 2 then decide (wordV N F E (ws.getD 0 default) = wordV N F E (ws.getD 1 default))
 else if k = 3 then true
 else if k = 5 then !(vs.getD 0 fun _=>false) E
 else if k = 6 then (vs.getD 0 fun _=>false) E && (vs.getD 1 fun _=>false) E
 else if k = 7 then (vs.getD 0 fun _=>false) E || (vs.getD 1 fun _=>false) E
 else if k = 8 then !(vs.getD 0 fun _=>false) E || (vs.getD 1 fun _=>false) E
 else if k = 9 then (List.range N.toNat).all fun x=>(vs.getD 0 fun _=>false) (updE E nm (x : Int))
 else if k = 10 then (List.range N.toNat).any fun x=>(vs.getD 0 fun _=>false) (updE E nm (x : Int))
 else false
mutual
def valV (N : Int) (F : List Fn) (P : List Pd) : Ex → (ByteArray → Int) → Bool
 | .mk k nm ws l=>valH N F P k nm ws (valsV N F P l)
def valsV (N : Int) (F : List Fn) (P : List Pd) : List Ex → List ((ByteArray → Int) → Bool)
 | []=>[]
 | e :: r=>valV N F P e :: valsV N F P r
end
theorem valsV_eq (N : Int) (F : List Fn) (P : List Pd) (l : List Ex) : valsV N F P l = l.map (valV N F P):=by
 induction l with
 | nil=>rfl
 | cons a r ih=>rw [valsV,ih];rfl
theorem valV_eq (N : Int) (F : List Fn) (P : List Pd) (e : Ex) : valV N F P e = valH N F P e.k e.nm e.words (e.kids.map (valV N F P)):=by
 cases e with | mk k a w l=>rw [valV,valsV_eq];rfl
def exH (F : List Fn) (P : List Pd) (k : Int) (nm : ByteArray) (ws : List Wd) (kc : Nat) : Bool:=
 wordsOkF F ws && decide (1 ≤ k ∧ k ≤ 10 ∧ (kc : Int) = kidsX k ∧ (k = 2 → ws.length = 2)) && (!decide (k = 1) || (predAt nm P).any fun p=>decide (p.ar = (ws.length : Int)))
mutual
def exOk (F : List Fn) (P : List Pd) : Ex → Bool
 | .mk k nm ws l=>exH F P k nm ws l.length && exsOk F P l
def exsOk (F : List Fn) (P : List Pd) : List Ex → Bool
 | []=>true
 | e :: r=>exOk F P e && exsOk F P r
end
theorem exOk_eq (F : List Fn) (P : List Pd) (e : Ex) : exOk F P e = (exH F P e.k e.nm e.words e.kids.length && exsOk F P e.kids):=by
 cases e with | mk k a w l=>rw [exOk];rfl
theorem exsOk_mem {F : List Fn} {P : List Pd} : ∀ {l : List Ex},exsOk F P l = true → ∀ w ∈ l,exOk F P w = true
 | [],_,w,h=>by cases h
 | a :: r,h,w,hw=>by
  rw [exsOk,Bool.and_eq_true] at h
  cases hw with
  | head=>exact h.1
  | tail _ hw=>exact exsOk_mem h.2 w hw
def PredsOk (N : Int) (P : List Pd) : Prop:=∀ f ∈ P,bitF N f = 0
theorem bitF_zero {N : Int} {f : Pd} (h : bitF N f = 0) : 0 ≤ f.ar ∧ f.ar ≤ 3 ∧ (f.bits.length : Int) = N ^ f.ar.toNat:=by
 unfold bitF at h
 split at h
 ·cases h
 rename_i h1
 split at h
 ·cases h
 rename_i h2
 exact ⟨by omega,by omega,Decidable.not_not.1 h2⟩
theorem predAt_mem {x : ByteArray} {F : List Pd} {f : Pd} (h : predAt x F = some f) : f ∈ F:=List.mem_of_find?_eq_some h
def stE (L : Ev) : Store:=[.map (mapI L)]
attribute [simp] stE
noncomputable def loopS (step : Ev → Bool × Ev) (nm : ByteArray) (all : Bool) : Nat → Nat → Ev → Bool × Ev
 | 0,_,L=>(all,L)
 | k + 1,x,L=>if (step (putI nm (x : Int) L)).1 ≠ all then (!all,(step (putI nm (x : Int) L)).2) else loopS step nm all k (x + 1) (step (putI nm (x : Int) L)).2
noncomputable def backI (nm : ByteArray) (before : Option Int) (L : Ev) : Ev:=match before with
 | some v=>putI nm v (delI nm L)
 | none=>delI nm L
noncomputable def valHS (N : Int) (F : List Fn) (P : List Pd) (k : Int) (nm : ByteArray) (ws : List Wd) (vs : List (Ev → Bool × Ev)) (L : Ev) : Bool × Ev:=
 if k = 1 then (((predAt nm P).getD default).bits.getD (placeV N F (envI L) ws).toNat false,L)
 else if k = 2 then (decide (wordV N F (envI L) (ws.getD 0 default) = wordV N F (envI L) (ws.getD 1 default)),L)
 else if k = 3 then (true,L)
 else if k = 5 then (!((vs.getD 0 fun L=>(false,L)) L).1,((vs.getD 0 fun L=>(false,L)) L).2)
 else if k = 6 then (if ((vs.getD 0 fun L=>(false,L)) L).1 = true then (vs.getD 1 fun L=>(false,L)) ((vs.getD 0 fun L=>(false,L)) L).2 else (false,((vs.getD 0 fun L=>(false,L)) L).2))
 else if k = 7 then (if ((vs.getD 0 fun L=>(false,L)) L).1 = true then (true,((vs.getD 0 fun L=>(false,L)) L).2) else (vs.getD 1 fun L=>(false,L)) ((vs.getD 0 fun L=>(false,L)) L).2)
 else if k = 8 then (if ((vs.getD 0 fun L=>(false,L)) L).1 = true then (vs.getD 1 fun L=>(false,L)) ((vs.getD 0 fun L=>(false,L)) L).2 else (true,((vs.getD 0 fun L=>(false,L)) L).2))
 else if k = 9 ∨ k = 10 then ((loopS (vs.getD 0 fun L=>(false,L)) nm (decide (k = 9)) N.toNat 0 L).1,backI nm (lookI nm L) (loopS (vs.getD 0 fun L=>(false,L)) nm (decide (k = 9)) N.toNat 0 L).2)
 else (false,L)
mutual
noncomputable def valS (N : Int) (F : List Fn) (P : List Pd) : Ex → Ev → Bool × Ev
 | .mk k nm ws l=>valHS N F P k nm ws (valsS N F P l)
noncomputable def valsS (N : Int) (F : List Fn) (P : List Pd) : List Ex → List (Ev → Bool × Ev)
 | []=>[]
 | e :: r=>valS N F P e :: valsS N F P r
end
theorem valsS_eq (N : Int) (F : List Fn) (P : List Pd) (l : List Ex) : valsS N F P l = l.map (valS N F P):=by
 induction l with
 | nil=>rfl
 | cons a r ih=>rw [valsS,ih];rfl
theorem valS_eq (N : Int) (F : List Fn) (P : List Pd) (e : Ex) : valS N F P e = valHS N F P e.k e.nm e.words (e.kids.map (valS N F P)):=by
 cases e with | mk k a w l=>rw [valS,valsS_eq];rfl
def Tells (st : Ev → Bool × Ev) (v : (ByteArray → Int) → Bool) : Prop:=∀ L,Keys L → (st L).1 = v (envI L) ∧ Keys (st L).2 ∧ ∀ y,lookI y (st L).2 = lookI y L
theorem envI_of {L L' : Ev} (h : ∀ y,lookI y L' = lookI y L) : envI L' = envI L:=by funext x;unfold envI;rw [h]
theorem envI_put {x : ByteArray} {v : Int} {L : Ev} (h : Keys L) : envI (putI x v L) = updE (envI L) x v:=by
 funext y;unfold envI updE;rw [putI_look h];split <;> rfl
theorem loopS_spec {st : Ev → Bool × Ev} {v : (ByteArray → Int) → Bool} (hs : Tells st v) (nm : ByteArray) (all : Bool) (E : ByteArray → Int) : ∀ (k x : Nat) (L : Ev),Keys L → (∀ y,y ≠ nm → envI L y = E y) →
  (loopS st nm all k x L).1 = (if (List.range' x k).all (fun i=>v (updE E nm (i : Int)) == all) = true then all else !all) ∧ Keys (loopS st nm all k x L).2 ∧ ∀ y,y ≠ nm → lookI y (loopS st nm all k x L).2 = lookI y L
 | 0,x,L,hk,_=>⟨by simp [loopS],hk,fun y _=>rfl⟩
 | k + 1,x,L,hk,hE=>by
  have e : updE (envI L) nm (x : Int) = updE E nm (x : Int):=by
   funext y
   unfold updE
   split
   ·rfl
   ·rename_i hy;exact hE y hy
  obtain ⟨h1,h2,h3⟩:=hs (putI nm (x : Int) L) (putI_keys hk)
  rw [envI_put hk,e] at h1
  have h4 : ∀ y,y ≠ nm → lookI y (st (putI nm (x : Int) L)).2 = lookI y L:=fun y hy=>by rw [h3,putI_look hk,if_neg hy]
  rw [loopS,List.range'_succ,List.all_cons]
  by_cases hb : (st (putI nm (x : Int) L)).1 = all
  ·rw [if_neg (fun g => g hb)]
   have ih:=loopS_spec hs nm all E k (x + 1) (st (putI nm (x : Int) L)).2 h2 fun y hy=>by
    unfold envI;rw [h4 y hy];exact hE y hy
   rw [h1] at hb
   rw [hb,beq_self_eq_true,Bool.true_and]
   exact ⟨ih.1,ih.2.1,fun y hy=>(ih.2.2 y hy).trans (h4 y hy)⟩
  ·rw [if_pos hb]
   rw [h1] at hb
   rw [beq_eq_false_iff_ne.2 hb,Bool.false_and]
   exact ⟨rfl,h2,h4⟩
theorem valS_spec (N : Int) (F : List Fn) (P : List Pd) (e : Ex) : Tells (valS N F P e) (valV N F P e):=by
 induction e using Ex.ind with
 | h e ih=>
  have hg : ∀ i,Tells ((e.kids.map (valS N F P)).getD i fun L=>(false,L)) ((e.kids.map (valV N F P)).getD i fun _=>false):=by
   intro i
   by_cases hi : i < e.kids.length
   ·have := ih e.kids[i] (List.getElem_mem hi)
    rw [List.getD_eq_getElem?_getD,List.getD_eq_getElem?_getD,List.getElem?_map,List.getElem?_map,List.getElem?_eq_getElem hi]
    exact this
   ·rw [List.getD_eq_getElem?_getD,List.getD_eq_getElem?_getD,List.getElem?_map,List.getElem?_map,List.getElem?_eq_none (by omega)]
    exact fun L hk=>⟨rfl,hk,fun _=>rfl⟩
  rw [valS_eq,valV_eq]
  unfold valHS valH
  generalize (e.kids.map (valS N F P)) = gs at *
  generalize (e.kids.map (valV N F P)) = vs at *
  have hg0:=hg 0
  have hg1:=hg 1
  generalize (gs.getD 0 fun L=>(false,L)) = g0 at *
  generalize (gs.getD 1 fun L=>(false,L)) = g1 at *
  generalize (vs.getD 0 fun _=>false) = v0 at *
  generalize (vs.getD 1 fun _=>false) = v1 at *
  clear hg ih
  intro L hk
  dsimp only
  obtain ⟨a1,a2,a3⟩:=hg0 L hk
  obtain ⟨b1,b2,b3⟩:=hg1 _ a2
  rw [envI_of a3] at b1
  have b4 : ∀ y,lookI y (g1 (g0 L).2).2 = lookI y L:=fun y=>(b3 y).trans (a3 y)
  by_cases k1 : e.k = 1
  ·rw [if_pos k1,if_pos k1];exact ⟨rfl,hk,fun _=>rfl⟩
  rw [if_neg k1,if_neg k1]
  by_cases k2 : e.k = 2
  ·rw [if_pos k2,if_pos k2];exact ⟨rfl,hk,fun _=>rfl⟩
  rw [if_neg k2,if_neg k2]
  by_cases k3 : e.k = 3
  ·rw [if_pos k3,if_pos k3];exact ⟨rfl,hk,fun _=>rfl⟩
  rw [if_neg k3,if_neg k3]
  by_cases k5 : e.k = 5
  ·rw [if_pos k5,if_pos k5];exact ⟨by dsimp only;rw [a1],a2,a3⟩
  rw [if_neg k5,if_neg k5]
  by_cases k6 : e.k = 6
  ·rw [if_pos k6,if_pos k6,← a1]
   cases (g0 L).1 with
   | true=>rw [if_pos rfl];exact ⟨by rw [b1];rfl,b2,b4⟩
   | false=>rw [if_neg (by simp)];exact ⟨rfl,a2,a3⟩
  rw [if_neg k6,if_neg k6]
  by_cases k7 : e.k = 7
  ·rw [if_pos k7,if_pos k7,← a1]
   cases (g0 L).1 with
   | true=>rw [if_pos rfl];exact ⟨rfl,a2,a3⟩
   | false=>rw [if_neg (by simp)];exact ⟨by rw [b1];rfl,b2,b4⟩
  rw [if_neg k7,if_neg k7]
  by_cases k8 : e.k = 8
  ·rw [if_pos k8,if_pos k8,← a1]
   cases (g0 L).1 with
   | true=>rw [if_pos rfl];exact ⟨by rw [b1];rfl,b2,b4⟩
   | false=>rw [if_neg (by simp)];exact ⟨rfl,a2,a3⟩
  rw [if_neg k8,if_neg k8]
  obtain ⟨l1,l2,l3⟩:=loopS_spec hg0 e.nm (decide (e.k = 9)) (envI L) N.toNat 0 L hk fun _ _=>rfl
  rw [← List.range_eq_range'] at l1
  generalize loopS g0 e.nm (decide (e.k = 9)) N.toNat 0 L = lo at *
  have hback : Keys (backI e.nm (lookI e.nm L) lo.2) ∧ ∀ y,lookI y (backI e.nm (lookI e.nm L) lo.2) = lookI y L:=by
   unfold backI
   cases hb : lookI e.nm L with
   | none=>
    refine ⟨delI_keys l2,fun y=>?_⟩
    dsimp only
    rw [delI_look l2]
    by_cases hy : y = e.nm
    ·rw [if_pos hy,hy,hb]
    ·rw [if_neg hy,l3 y hy]
   | some v=>
    refine ⟨putI_keys (delI_keys l2),fun y=>?_⟩
    dsimp only
    rw [putI_look (delI_keys l2),delI_look l2]
    by_cases hy : y = e.nm
    ·rw [if_pos hy,hy,hb]
    ·rw [if_neg hy,if_neg hy,l3 y hy]
  by_cases k9 : e.k = 9
  ·rw [if_pos (.inl k9),if_pos k9]
   refine ⟨?_,hback⟩
   dsimp only
   rw [l1,decide_eq_true k9]
   simp only [beq_true,Bool.not_true]
   cases (List.range N.toNat).all fun i=>v0 (updE (envI L) e.nm (i : Int)) <;> rfl
  rw [if_neg k9]
  by_cases k10 : e.k = 10
  ·rw [if_pos (.inr k10),if_pos k10]
   refine ⟨?_,hback⟩
   dsimp only
   rw [l1,decide_eq_false k9,List.any_eq_not_all_not]
   simp only [beq_false,Bool.not_false]
   cases (List.range N.toNat).all fun i=>!v0 (updE (envI L) e.nm (i : Int)) <;> rfl
  rw [if_neg (fun g=>g.elim k9 k10),if_neg k10]
  exact ⟨rfl,hk,fun _=>rfl⟩
end Go.Proofs.Ytbimioonhfhflaa
