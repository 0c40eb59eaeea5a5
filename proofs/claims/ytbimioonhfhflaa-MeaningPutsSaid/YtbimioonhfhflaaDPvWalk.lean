import Derived.Test.YtbimioonhfhflaaDPvData
set_option linter.unusedVariables false
set_option linter.unusedSimpArgs false
namespace Go.Pv
open Go Go.RowKit
def FrzC (G : Store) (n : Nat) (v v2 : PV) : Prop:=Soft v2 v ∨ Soft v2 (deref G n v)
theorem FrzC.same {G : Store} {n : Nat} {v : PV} : FrzC G n v v:=.inl .refl
theorem FrzC.deref {G : Store} {n : Nat} {v v2 : PV} (h : deref G n v = v2) : FrzC G n v v2:=.inr (h ▸ .refl)
def FrzObj (G : Store) (n : Nat) : PObj → PObj → Prop
 | _,.dead=>True
 | .rows z rs,.rows z' rs2=>z = z' ∧ rs2.length = rs.length ∧ ∀ (r : Nat) (row row2 : List PV),rs[r]? = some row → rs2[r]? = some row2 → row2.length = row.length ∧ ∀ (j : Nat) (v v2 : PV),row[j]? = some v → row2[j]? = some v2 → FrzC G n v v2
 | .iter t p,.iter t' p'=>t = t' ∧ p = p'
 | .map es,.map es2=>es2.length = es.length ∧ ∀ (j : Nat) (p p2 : PV × PV),es[j]? = some p → es2[j]? = some p2 → FrzC G n p.1 p2.1 ∧ FrzC G n p.2 p2.2
 | _,_=>False
theorem FrzObj.same {G : Store} {n : Nat} {o : PObj} : FrzObj G n o o:=by
 cases o with
 | dead=>trivial
 | rows z rs=>exact ⟨rfl,rfl,fun r row row2 h h2=>by rw [h] at h2;cases h2;exact ⟨rfl,fun j v v2 h h2=>by rw [h] at h2;cases h2;exact .same⟩⟩
 | iter t p=>exact ⟨rfl,rfl⟩
 | map es=>exact ⟨rfl,fun j p p2 h h2=>by rw [h] at h2;cases h2;exact ⟨.same,.same⟩⟩
section
variable {m : Nat} {e : Env} {s : Store}
theorem give_core (F : List Nat) (n : Nat) (s2 : Store) (hl : s2.length = s.length)
  (ho : ∀ (k : Nat) (o2 : PObj),s2[k]? = some o2 → o2 ≠ .dead → k ∉ F ∧ ∃ o,s[k]? = some o ∧ FrzObj (only F 0 s) n o o2) {C : Ctx} {pub : PHeap} {σ : Sig} {w : World} (hs : SR C pub σ s w) :
  SR C (opened pub σ (only F 0 s) w) σ s2 w ∧ ∀ v v2 c,FrzC (only F 0 s) n v v2 → Rel pub σ v c → Rel (opened pub σ (only F 0 s) w) σ v2 c:=by
 have hso : SR C pub σ (only F 0 s) w:=hs.sub (only_length _ _ _) fun k o h hd=>(only_get F s 0 k o h hd).1
 have hle:=opened_le hso
 have hcell : ∀ v v2 c,FrzC (only F 0 s) n v v2 → Rel pub σ v c → Rel (opened pub σ (only F 0 s) w) σ v2 c:=by
  intro v v2 c h hr
  rcases h with h | h
  ·exact h.rel (hr.mono hle Sig.le.rfl')
  ·exact h.rel ((deref_rel hso n v c hr).mono PHeap.le.rfl' (noSig_le σ))
 have hal : ∀ i li,Alive s2 σ i li → i ∉ F ∧ Alive s σ i li:=by
  rintro i li ⟨o2,h1,h2,h3,h4⟩
  obtain ⟨h5,o,h6,h7⟩:=ho i o2 h1 h2
  refine ⟨h5,o,h6,?_,h3,h4⟩
  rintro rfl
  cases o2 <;> first | exact h2 rfl | exact h7
 have hno : ∀ i li,Alive s2 σ i li → ¬ dom (only F 0 s) σ li.b:=by
  rintro i li hi ⟨j,lj,⟨o',g1,g2,g3,g4⟩,hb⟩
  obtain ⟨h5,h6⟩:=hal i li hi
  obtain ⟨g5,g6⟩:=only_get F s 0 j o' g1 g2
  have:=hs.inj i j li lj h6 ⟨o',g5,g2,g3,g4⟩ hb.symm
  subst this
  rw [Nat.zero_add] at g6
  exact h5 g6
 refine ⟨?_,hcell⟩
 ·exact {
   pubIn:=opened_in hso
   obj:=fun i o2 hi=>by
    by_cases hd : o2 = .dead
    ·subst hd;trivial
    ·obtain ⟨_,o,h1,h2⟩ := ho i o2 hi hd
     have h0:=hs.obj i o h1
     cases o with
     | dead=>cases o2 <;> first | exact absurd rfl hd | exact h2.elim
     | rows z rs=>
      cases o2 with
      | dead=>exact absurd rfl hd
      | iter=>exact h2.elim
      | map=>exact h2.elim
      | rows z' rs2=>
       obtain ⟨rfl,hlen,hrow⟩:=h2
       obtain ⟨li,g1,g2,g3,g4⟩:=h0
       refine ⟨li,g1,g2,by omega,fun hn=>?_⟩
       obtain ⟨h5,cs,ty,h6,h7,h8⟩:=g4 hn
       refine ⟨?_,cs,ty,h6,h7,fun r row2 hr=>?_,fun r row2 j v2 c hr hj hc=>?_⟩
       ·unfold opened
        rw [if_neg (hno i li ⟨_,hi,by simp,g1,hn⟩)];exact h5
       ·have hlt := lt_of_getElem? hr
        have h9 : rs[r]? = some (rs[r]'(by omega)):=List.getElem?_eq_getElem _
        rw [(hrow r _ _ h9 hr).1];exact h8.wide r _ h9
       ·have hlt := lt_of_getElem? hr
        have h9 : rs[r]? = some (rs[r]'(by omega)):=List.getElem?_eq_getElem _
        have h10:=hrow r _ _ h9 hr
        have hjl:=lt_of_getElem? hj
        have h11 : (rs[r]'(by omega))[j]? = some ((rs[r]'(by omega))[j]'(by omega)):=List.getElem?_eq_getElem _
        exact hcell _ _ c (h10.2 j _ _ h11 hj) (h8.rel r _ j _ c h9 h11 hc)
     | iter t p=>
      cases o2 with
      | dead=>exact absurd rfl hd
      | rows=>exact h2.elim
      | map=>exact h2.elim
      | iter t' p'=>
       obtain ⟨rfl,rfl⟩:=h2
       obtain ⟨li,h1,h2,h3,h4,h5,h6⟩:=h0
       refine ⟨li,h1,?_,h3,h4,h5,h6⟩
       unfold opened
       rw [if_neg (hno i li ⟨_,hi,by simp,h1,by omega⟩)];exact h2
     | map es=>
      cases o2 with
      | dead=>exact absurd rfl hd
      | rows=>exact h2.elim
      | iter=>exact h2.elim
      | map es2=>
       obtain ⟨hlen,hent⟩:=h2
       obtain ⟨li,h1,h2,h3,h4,h5,xs,clock,h6,h7,h8⟩:=h0
       refine ⟨li,h1,?_,h3,h4,h5,xs,clock,h6,h7.trans hlen.symm,fun j k v e a b=>?_⟩
       ·unfold opened
        rw [if_neg (hno i li ⟨_,hi,by simp,h1,by omega⟩)];exact h2
       ·have hlt := lt_of_getElem? a
        have h9 : es[j]? = some (es[j]'(by omega)):=List.getElem?_eq_getElem _
        have h10:=hent j _ _ h9 a
        have h11:=h8 j _ _ e h9 b
        exact ⟨hcell _ _ _ h10.1 h11.1,hcell _ _ _ h10.2 h11.2⟩
   inj:=fun i j li lj hi hj hb=>hs.inj i j li lj (hal i li hi).2 (hal j lj hj).2 hb
   sig:=fun i hi=>hs.sig i (by omega)
   os:=hs.os,tape:=hs.tape,output:=hs.output,size:=hs.size
   frame:=fun b hb hd=>by
    have h1:=hs.frame b hb hd
    refine ⟨h1.1,?_⟩
    unfold opened
    rw [if_neg,h1.2]
    rintro ⟨i,l,hl,rfl⟩
    rcases hso.own i l hl with h2 | h2
    ·exact hd h2
    ·omega
   own:=fun i l hl=>hs.own i l (hal i l hl).2
   ple:=hs.ple.trans hle
   sle:=hs.sle }
theorem View.give (F : List Nat) (n : Nat) (l : List (Nat × PV)) (s2 : Store) (hl : s2.length = s.length)
  (ho : ∀ (k : Nat) (o2 : PObj),s2[k]? = some o2 → o2 ≠ .dead → k ∉ F ∧ ∃ o,s[k]? = some o ∧ FrzObj (only F 0 s) n o o2) (he : ∀ p ∈ l,FrzC (only F 0 s) n (e p.1) p.2) : ViewL m e s l s2:=by
 intro C pub σ a w N hC hs her
 obtain ⟨hs2,hcell⟩:=give_core F n s2 hl ho hs
 refine ⟨opened pub σ (only F 0 s) w,σ,hs2,her.size,her.defers,her.kept,fun t=>?_⟩
 induction l with
 | nil=>exact .any
 | cons p r ih=>
  obtain ⟨t',v⟩:=p
  unfold envOf
  split
  ·rename_i htt
   subst htt
   exact hcell _ _ _ (he (t,v) (by simp)) (her.rel t)
  ·exact ih fun q hq=>he q (by simp [hq])
end
def VoidC (K : Nat) (v v2 : PV) : Prop:=Soft v2 v ∨ (v = .nilsl ∧ v2 = .sl K 0 0)
theorem VoidC.same {K : Nat} {v : PV} : VoidC K v v:=.inl .refl
theorem VoidC.nil {K : Nat} : VoidC K .nilsl (.sl K 0 0):=.inr ⟨rfl,rfl⟩
def VoidObj (K : Nat) : PObj → PObj → Prop
 | _,.dead=>True
 | .rows z rs,.rows z' rs2=>z = z' ∧ rs2.length = rs.length ∧ ∀ (r : Nat) (row row2 : List PV),rs[r]? = some row → rs2[r]? = some row2 → row2.length = row.length ∧ ∀ (j : Nat) (v v2 : PV),row[j]? = some v → row2[j]? = some v2 → VoidC K v v2
 | .iter t p,.iter t' p'=>t = t' ∧ p = p'
 | .map es,.map es2=>es = es2
 | _,_=>False
theorem VoidObj.same {K : Nat} {o : PObj} : VoidObj K o o:=by
 cases o with
 | dead=>trivial
 | rows z rs=>exact ⟨rfl,rfl,fun r row row2 h h2=>by rw [h] at h2;cases h2;exact ⟨rfl,fun j v v2 h h2=>by rw [h] at h2;cases h2;exact .same⟩⟩
 | iter t p=>exact ⟨rfl,rfl⟩
 | map es=>exact rfl
section
variable {m : Nat} {e : Env} {s : Store}
theorem View.void (esz : Nat) (l : List (Nat × PV)) (s2 : Store) (hl : s2.length = s.length)
  (ho : ∀ (k : Nat) (o2 : PObj),s2[k]? = some o2 → ∃ o,s[k]? = some o ∧ VoidObj s.length o o2) (he : ∀ p ∈ l,VoidC s.length (e p.1) p.2) : ViewL m e s l (s2 ++ [.rows esz []]):=by
 intro C pub σ a w N hC hs her
 have hv:=hs.void 0 0 esz
 have hle:=hs.toBase.le_add ⟨0,0,esz,0⟩
 generalize hτ : σ.add s.length ⟨0,0,esz,0⟩ = τ at hv hle
 have hK : τ s.length = some ⟨0,0,esz,0⟩:=by rw [← hτ];exact Sig.add_same _ _ _
 have hcell : ∀ v v2 c,VoidC s.length v v2 → Rel pub τ v c → Rel pub τ v2 c:=by
  intro v v2 c h hr
  rcases h with h | ⟨rfl,rfl⟩
  ·exact h.rel hr
  ·cases hr;exact .sl hK (Nat.le_refl _) (Nat.zero_le _) (fun h=>by omega)
 have hget : ∀ (k : Nat) (o2 : PObj),(s2 ++ [PObj.rows esz []])[k]? = some o2 → ∃ o,(s ++ [PObj.rows esz []])[k]? = some o ∧ VoidObj s.length o o2:=by
  intro k o2 h
  rcases Nat.lt_or_ge k s2.length with hk | hk
  ·rw [List.getElem?_append_left hk] at h
   obtain ⟨o,h1,h2⟩:=ho k o2 h
   exact ⟨o,by rw [List.getElem?_append_left (by omega)];exact h1,h2⟩
  ·rw [List.getElem?_append_right hk,hl] at h
   exact ⟨o2,by rw [List.getElem?_append_right (by omega)];exact h,.same⟩
 have hal : ∀ i li,Alive (s2 ++ [PObj.rows esz []]) τ i li → Alive (s ++ [PObj.rows esz []]) τ i li:=by
  rintro i li ⟨o2,h1,h2,h3,h4⟩
  obtain ⟨o,h6,h7⟩:=hget i o2 h1
  refine ⟨o,h6,?_,h3,h4⟩
  rintro rfl
  cases o2 <;> first | exact h2 rfl | exact h7
 refine ⟨pub,τ,?_,her.size,her.defers,her.kept,fun t=>?_⟩
 ·exact {
   pubIn:=hv.pubIn
   obj:=fun i o2 hi=>by
    by_cases hd : o2 = .dead
    ·subst hd;trivial
    ·obtain ⟨o,h1,h2⟩ := hget i o2 hi
     have h0:=hv.obj i o h1
     cases o with
     | dead=>cases o2 <;> first | exact absurd rfl hd | exact h2.elim
     | rows z rs=>
      cases o2 with
      | dead=>exact absurd rfl hd
      | iter=>exact h2.elim
      | map=>exact h2.elim
      | rows z' rs2=>
       obtain ⟨rfl,hlen,hrow⟩:=h2
       obtain ⟨li,g1,g2,g3,g4⟩:=h0
       refine ⟨li,g1,g2,by omega,fun hn=>?_⟩
       obtain ⟨h5,cs,ty,h6,h7,h8⟩:=g4 hn
       refine ⟨h5,cs,ty,h6,h7,fun r row2 hr=>?_,fun r row2 j v2 c hr hj hc=>?_⟩
       ·have hlt := lt_of_getElem? hr
        have h9 : rs[r]? = some (rs[r]'(by omega)):=List.getElem?_eq_getElem _
        rw [(hrow r _ _ h9 hr).1];exact h8.wide r _ h9
       ·have hlt := lt_of_getElem? hr
        have h9 : rs[r]? = some (rs[r]'(by omega)):=List.getElem?_eq_getElem _
        have h10:=hrow r _ _ h9 hr
        have hjl:=lt_of_getElem? hj
        have h11 : (rs[r]'(by omega))[j]? = some ((rs[r]'(by omega))[j]'(by omega)):=List.getElem?_eq_getElem _
        exact hcell _ _ c (h10.2 j _ _ h11 hj) (h8.rel r _ j _ c h9 h11 hc)
     | iter t p=>
      cases o2 with
      | dead=>exact absurd rfl hd
      | rows=>exact h2.elim
      | map=>exact h2.elim
      | iter t' p'=>obtain ⟨rfl,rfl⟩:=h2;exact h0
     | map es=>
      cases o2 with
      | dead=>exact absurd rfl hd
      | rows=>exact h2.elim
      | iter=>exact h2.elim
      | map es2=>obtain rfl:=h2;exact h0
   inj:=fun i j li lj hi hj hb=>hv.inj i j li lj (hal i li hi) (hal j lj hj) hb
   sig:=fun i hi=>hv.sig i (by simp at hi ⊢;omega)
   os:=hv.os,tape:=hv.tape,output:=hv.output,size:=hv.size
   frame:=hv.frame
   own:=fun i l hl=>hv.own i l (hal i l hl)
   ple:=hv.ple
   sle:=hv.sle }
 ·induction l with
  | nil=>exact .any
  | cons p r ih=>
   obtain ⟨t',v⟩:=p
   unfold envOf
   split
   ·rename_i htt
    subst htt
    exact hcell _ _ _ (he (t,v) (by simp)) ((her.rel t).mono PHeap.le.rfl' hle)
   ·exact ih fun q hq=>he q (by simp [hq])
end
section
variable {m : Nat} {e : Env} {s : Store}
def VoidL (K : Nat) : Store → Store → Prop
 | [],[]=>True
 | o :: r,p :: q=>VoidObj K o p ∧ VoidL K r q
 | _,_=>False
theorem VoidL.get {K : Nat} : ∀ {a b : Store},VoidL K a b → b.length = a.length ∧ ∀ (k : Nat) (o2 : PObj),b[k]? = some o2 → ∃ o,a[k]? = some o ∧ VoidObj K o o2
 | [],[],_=>⟨rfl,fun k o2 h=>by simp at h⟩
 | [],_ :: _,h=>h.elim
 | _ :: _,[],h=>h.elim
 | o :: r,p :: q,⟨h1,h2⟩=>by
  obtain ⟨h3,h4⟩:=VoidL.get h2
  refine ⟨by simp [h3],fun k o2 h=>?_⟩
  cases k with
  | zero=>simp at h;subst h;exact ⟨o,rfl,h1⟩
  | succ k=>simpa using h4 k o2 (by simpa using h)
def VoidEnv (K : Nat) (e : Env) : List (Nat × PV) → Prop
 | []=>True
 | (t,v) :: r=>VoidC K (e t) v ∧ VoidEnv K e r
theorem VoidEnv.get {K : Nat} : ∀ (l : List (Nat × PV)),VoidEnv K e l → ∀ p ∈ l,VoidC K (e p.1) p.2
 | [],_,p,hp=>by cases hp
 | (n,v) :: r,h,p,hp=>by
  cases hp with
  | head=>exact h.1
  | tail _ hp=>exact VoidEnv.get r h.2 p hp
theorem VoidObj.set {K z i : Nat} {A : List (List PV)} {r r' : List PV} (h : A[i]? = some r) (hl : r'.length = r.length) (g : ∀ (j : Nat) (v v2 : PV),r[j]? = some v → r'[j]? = some v2 → VoidC K v v2) : VoidObj K (.rows z A) (.rows z (A.set i r')):=by
 refine ⟨rfl,by simp,fun k row row2 hr hr2=>?_⟩
 rw [List.getElem?_set] at hr2
 by_cases e : i = k
 ·subst e
  rw [h] at hr;cases hr
  simp only [if_true] at hr2
  split at hr2
  ·cases hr2;exact ⟨hl,g⟩
  ·cases hr2
 ·rw [if_neg e,hr] at hr2; cases hr2
  exact ⟨rfl,fun j v v2 a b=>by rw [a] at b;cases b;exact .same⟩
def GiveL (F : List Nat) (G : Store) (n : Nat) : Nat → Store → Store → Prop
 | _,[],[]=>True
 | k,o :: r,p :: q=>(p = .dead ∨ (k ∉ F ∧ FrzObj G n o p)) ∧ GiveL F G n (k + 1) r q
 | _,_,_=>False
theorem GiveL.get {F : List Nat} {G : Store} {n : Nat} : ∀ {a b : Store} {i : Nat},GiveL F G n i a b → b.length = a.length ∧ ∀ (k : Nat) (o2 : PObj),b[k]? = some o2 → o2 ≠ .dead → i + k ∉ F ∧ ∃ o,a[k]? = some o ∧ FrzObj G n o o2
 | [],[],_,_=>⟨rfl,fun k o2 h=>by simp at h⟩
 | [],_ :: _,_,h=>h.elim
 | _ :: _,[],_,h=>h.elim
 | o :: r,p :: q,i,⟨h1,h2⟩=>by
  obtain ⟨h3,h4⟩:=GiveL.get h2
  refine ⟨by simp [h3],fun k o2 h hd=>?_⟩
  cases k with
  | zero=>
   simp at h;subst h
   rcases h1 with h1 | h1
   ·exact absurd h1 hd
   ·exact ⟨h1.1,o,rfl,h1.2⟩
  | succ k=>
   have:=h4 k o2 (by simpa using h) hd
   refine ⟨by rw [show i + (k + 1) = i + 1 + k by omega];exact this.1,by simpa using this.2⟩
def GiveEnv (G : Store) (n : Nat) (e : Env) : List (Nat × PV) → Prop
 | []=>True
 | (t,v) :: r=>FrzC G n (e t) v ∧ GiveEnv G n e r
theorem GiveEnv.get {G : Store} {n : Nat} : ∀ (l : List (Nat × PV)),GiveEnv G n e l → ∀ p ∈ l,FrzC G n (e p.1) p.2
 | [],_,p,hp=>by cases hp
 | (n,v) :: r,h,p,hp=>by
  cases hp with
  | head=>exact h.1
  | tail _ hp=>exact GiveEnv.get r h.2 p hp
theorem FrzObj.set {G : Store} {n z i : Nat} {A : List (List PV)} {r r' : List PV} (h : A[i]? = some r) (hl : r'.length = r.length) (g : ∀ (j : Nat) (v v2 : PV),r[j]? = some v → r'[j]? = some v2 → FrzC G n v v2) : FrzObj G n (.rows z A) (.rows z (A.set i r')):=by
 refine ⟨rfl,by simp,fun k row row2 hr hr2=>?_⟩
 rw [List.getElem?_set] at hr2
 by_cases e : i = k
 ·subst e
  rw [h] at hr;cases hr
  simp only [if_true] at hr2
  split at hr2
  ·cases hr2;exact ⟨hl,g⟩
  ·cases hr2
 ·rw [if_neg e,hr] at hr2; cases hr2
  exact ⟨rfl,fun j v v2 a b=>by rw [a] at b;cases b;exact .same⟩
end
def VoidCs (K : Nat) : List PV → List PV → Prop
 | [],[]=>True
 | x :: xs,y :: ys=>VoidC K x y ∧ VoidCs K xs ys
 | _,_=>False
theorem VoidCs.get {K : Nat} : ∀ {xs ys : List PV},VoidCs K xs ys → ys.length = xs.length ∧ ∀ (j : Nat) (v v2 : PV),xs[j]? = some v → ys[j]? = some v2 → VoidC K v v2
 | [],[],_=>⟨rfl,fun j v v2 h=>by simp at h⟩
 | [],_ :: _,h=>h.elim
 | _ :: _,[],h=>h.elim
 | x :: xs,y :: ys,⟨h1,h2⟩=>by
  obtain ⟨h3,h4⟩:=VoidCs.get h2
  refine ⟨by simp [h3],fun j v v2 h h'=>?_⟩
  cases j with
  | zero=>simp at h h';subst h h';exact h1
  | succ j=>exact h4 j v v2 (by simpa using h) (by simpa using h')
theorem VoidObj.one {K z : Nat} {r r' : List PV} (h : VoidCs K r r') : VoidObj K (.rows z [r]) (.rows z [r']):=
 ⟨rfl,rfl,fun k row row2 hr hr2=>by
  cases k with
  | zero=>simp at hr hr2;subst hr hr2;exact h.get
  | succ k=>simp at hr⟩
theorem CallOK.given {P : Program} {f : FuncId} {args : List PV} {s s' : Store} {v : PV} (p : Prop) (hp : ∀ pub σ cargs,RelA pub σ args cargs → p) (h : p → CallOK P f args s v s') : CallOK P f args s v s':=
 fun pub σ w cargs hb ha=>h (hp pub σ cargs ha) pub σ w cargs hb ha
theorem View.reshape {m : Nat} {e : Env} {s : Store} (t i off z : Nat) (row : List PV) (he : e t = .ptr i 0 off) (hi : s[i]? = some (.rows z [row])) :
  View m e s (e.upd (some t) (.ptr s.length 0 off)) (s.set i .dead ++ [.rows 1 (row.map fun x=>[x])]):=by
 intro C pub σ a w N hC hs her
 have ht:=her.rel t
 rw [he] at ht
 obtain ⟨l,hσ⟩ : ∃ l,σ i = some l:=by
  generalize a.tmps.getD t undef = c at ht
  cases ht with
  | ptr hσ=>exact ⟨_,hσ⟩
 obtain ⟨hn,hle,cs,ty,hb,hsz,hR⟩:=hs.rows hi hσ (by simp)
 have hw:=hR.wide 0 row rfl
 have hal:=ObjOK.alive hs.obj ⟨_,hi,by simp,hσ,hn⟩
 have hlt:=hs.toBase.le_add ⟨l.b,l.o,1,l.esz⟩
 have hf : l.esz ≤ l.n * l.esz:=Nat.le_mul_of_pos_left _ hn
 have hobj : ObjOK pub (σ.add s.length ⟨l.b,l.o,1,l.esz⟩) w s.length (.rows 1 (row.map fun x=>[x])):=by
  refine ⟨_,Sig.add_same _ _ _,rfl,by simp [hw],fun _=>⟨hal.1,cs,ty,hb,by simp only;omega,?_,?_⟩⟩
  ·intro r row' hr
   rw [List.getElem?_map,Option.map_eq_some_iff] at hr
   obtain ⟨x,_,rfl⟩:=hr;rfl
  ·intro r row' j v c hr hj hc
   rw [List.getElem?_map,Option.map_eq_some_iff] at hr
   obtain ⟨x,hx,rfl⟩:=hr
   cases j with
   | succ j=>simp at hj
   | zero=>
    simp only [List.getElem?_cons_zero,Option.some.injEq] at hj
    subst hj
    refine (hR.rel 0 row r x c rfl hx ?_).up hlt
    rw [← hc];simp
 refine ⟨pub,σ.add s.length ⟨l.b,l.o,1,l.esz⟩,hs.rehome i _ l ⟨l.b,l.o,1,l.esz⟩ hi (by simp) hσ hn rfl _ hobj,her.size,her.defers,her.kept,fun t'=>?_⟩
 unfold Env.upd
 dsimp only
 by_cases e1 : t' = t
 ·subst e1
  rw [if_pos rfl]
  generalize a.tmps.getD t' undef = c at ht
  cases ht with
  | ptr hσ'=>
   rw [hσ] at hσ';cases hσ'
   have:=Rel.ptr (pub:=pub) (row:=0) (off:=off) (Sig.add_same σ s.length ⟨l.b,l.o,1,l.esz⟩)
   simpa using this
 ·rw [if_neg e1]
  exact (her.rel t').up hlt
end Go.Pv
namespace Go.Pv
open Go
class MixT (P : Program) : Prop where
 h : P.follows .mixedOrders = true
section
variable {P : Program} {N : Nat} {m : Nat} {e : Env} {s : Store} {K : Post} {k : Env → Store → Prop} {p : Prop}
theorem stp {g r : Prop} (x : r) (h : r → g := by
  intro x;first | exact thenL_normal x | exact blockK_normal x | exact thenL_exit x | exact blockK_exit x | exact blockK_past rfl x | exact loopK_exit x | exact thenL_ret x | exact blockK_ret x | exact loopK_ret x | exact loopK_normal x | exact EvL.seq x | exact EvL.block x | exact EvL.skip x | exact EvL.exit x | exact EvL.ret x | exact WOps.stop x | exact WMix.tail x) : g:=h x
theorem EvL.regA {ops : List LOp} (h : ∀ k : Env → Store → Prop,(∀ e' s',K .normal e' s' → k e' s') → WOps P (frn N) ops e s k) : EvL P (frn N) m (.reg ops false) e s K:=EvL.regk h
theorem WOps.auto (F : p) {d : Option Tmp} {op : Op} {rest : List LOp} {r : (PV → Store → Prop) → Prop} (x : ∀ q : PV → Store → Prop,(∀ v s',WOps P (frn N) rest (e.upd d v) s' k → q v s') → r q)
  (hd : ∀ t,d = some t → t < N:=by simp only [lga,lgb,lgc,lgd,lge,lgf,lgg,lgh,lgi,lgj,lgk,nn,reduceCtorEq,reduceIte,Nat.reduceEqDiff,Nat.reduceLT,Nat.reduceAdd,Nat.reduceMul,Nat.reduceLeDiff,Int.toNat_natCast,Int.toNat_zero,Int.toNat_one,Int.reduceToNat,Int.reduceLE,Int.reduceLT,ne_eq,eq_self,Int.natCast_zero,Int.cast_ofNat_Int,Int.natCast_add,Int.natCast_one,Int.reduceNeg,Int.reduceSub,beq_self_eq_true,bne_self_eq_false])
  (h : p → ∀ q,r q → WOp P op e s q:=by intro hF q x;simp only [WOp,WCall,plainEqAt,plainEq,Option.bind_some,WLoad,WStore,rowA,readP,evO,ofConst,Env.upd,envOf,argEnv,binP,intP,strP,shiftP,lenP,lenKind,cellsP,isCell,WFieldAddr,WField,WIndexAddr,WIndex,WMake,WSlice,boundP,WBuild,fillP,WBuildSlice,fillRows,WApp,WAppend,WSrc,isDst,killP,spliceP,WNext,WRes,WClear,putRows,tyI,zoI,lga,lgb,lgc,lgd,lge,lgf,lgg,lgh,lgi,lgj,lgk,nn,reduceCtorEq,reduceIte,Nat.reduceEqDiff,Nat.reduceLT,Nat.reduceAdd,Nat.reduceMul,Nat.reduceLeDiff,Int.toNat_natCast,Int.toNat_zero,Int.toNat_one,Int.reduceToNat,Int.reduceLE,Int.reduceLT,ne_eq,eq_self,Int.natCast_zero,Int.cast_ofNat_Int,Int.natCast_add,Int.natCast_one,Int.reduceNeg,Int.reduceSub,beq_self_eq_true,bne_self_eq_false,hF];exact x) : WOps P (frn N) (⟨d,op,none⟩ :: rest) e s k:=
 WOps.step (frl hd) fun q hq=>h F q (x q hq)
theorem WOps.takeA {d : Option Tmp} {op : Op} {g : Nat} {b : Bool} {r : List LOp} (w : WOps P (frn N) (⟨d,op,none⟩ :: r) e s k) (h : e g = .bool b:=by (simp only [vsa,vsb,vsc,Nat.reduceAdd,Nat.reduceLT,evO,ofConst,Env.upd,envOf,argEnv,reduceIte,Nat.reduceEqDiff,reduceCtorEq]) <;> rfl) : WOps P (frn N) (⟨d,op,some (some g,b)⟩ :: r) e s k:=WOps.take h w
theorem WOps.passA {d : Option Tmp} {op : Op} {g : Nat} {b : Bool} {r : List LOp} (w : WOps P (frn N) r (e.upd d (.tuple [])) s k) (h : e g = .bool (!b):=by (simp only [vsa,vsb,vsc,Nat.reduceAdd,Nat.reduceLT,evO,ofConst,Env.upd,envOf,argEnv,reduceIte,Nat.reduceEqDiff,reduceCtorEq]) <;> rfl) (hd : ∀ t,d = some t → t < N:=by simp only [lga,lgb,lgc,lgd,lge,lgf,lgg,lgh,lgi,lgj,lgk,nn,reduceCtorEq,reduceIte,Nat.reduceEqDiff,Nat.reduceLT,Nat.reduceAdd,Nat.reduceMul,Nat.reduceLeDiff,Int.toNat_natCast,Int.toNat_zero,Int.toNat_one,Int.reduceToNat,Int.reduceLE,Int.reduceLT,ne_eq,eq_self,Int.natCast_zero,Int.cast_ofNat_Int,Int.natCast_add,Int.natCast_one,Int.reduceNeg,Int.reduceSub,beq_self_eq_true,bne_self_eq_false]) : WOps P (frn N) (⟨d,op,some (some g,b)⟩ :: r) e s k:=WOps.pass h (frl hd) w
theorem WOps.splitA {d : Option Tmp} {op : Op} {g : Nat} {b : Bool} {r : List LOp} {t : Bool} (h1 : t = true → WOps P (frn N) (⟨d,op,some (some g,b)⟩ :: r) e s k) (h2 : t = false → WOps P (frn N) (⟨d,op,some (some g,b)⟩ :: r) e s k)
  (h : e g = .bool t:=by (simp only [vsa,vsb,vsc,Nat.reduceAdd,Nat.reduceLT,evO,ofConst,Env.upd,envOf,argEnv,reduceIte,Nat.reduceEqDiff,reduceCtorEq]) <;> rfl) : WOps P (frn N) (⟨d,op,some (some g,b)⟩ :: r) e s k:=WOps.split h h1 h2
theorem EvL.condA {c : Operand} {x y : LC} {t : Bool} (h1 : t = true → EvL P (frn N) m x e s K) (h2 : t = false → EvL P (frn N) m y e s K) (hc : evO e c = .bool t:=by (simp only [vsa,vsb,vsc,Nat.reduceAdd,Nat.reduceLT,evO,ofConst,Env.upd,envOf,argEnv,reduceIte,Nat.reduceEqDiff,reduceCtorEq]) <;> rfl) : EvL P (frn N) m (.cond c x y) e s K:=EvL.cond hc h1 h2
theorem EvL.drawnA {ops : Array Oper} {lo : List LOp} (h : ∀ k : Env → Store → Prop,(∀ e' s',K .normal e' s' → k e' s') → WOps P (frn N) lo e s k) (hchk : drawChk ops (drawM ops) = true := by decide +kernel)
  (hl : lopsL (dsts ops.toList) ops.toList = lo:=by (dsimp only [lopsL,dsts,lop,nth]) <;> rfl) [hmix : MixT P] : EvL P (frn N) m (.drawn ops) e s K:=EvL.drawnk hmix.h hchk fun k hk=>hl ▸ h k hk
theorem EvL.mixA {ops : Array Oper} {n : Nat} {lo : List LOp} (h : ∀ k : Env → Store → Prop,(∀ e' s',K .normal e' s' → k e' s') → WMix P (frn N) false n lo e s [] k)
  (hchk : mixChk ops n = true:=by first | (show mixChk _ 0 = true;decide +kernel) | (show mixChk _ 1 = true;decide +kernel) | (show mixChk _ 2 = true;decide +kernel) | (show mixChk _ 3 = true;decide +kernel) | (show mixChk _ 4 = true;decide +kernel) | (show mixChk _ 5 = true;decide +kernel) | (show mixChk _ 6 = true;decide +kernel) | (show mixChk _ 7 = true;decide +kernel) | (show mixChk _ 8 = true;decide +kernel) | (show mixChk _ 9 = true;decide +kernel) | (show mixChk _ 10 = true;decide +kernel) | (show mixChk _ 11 = true;decide +kernel) | (show mixChk _ 12 = true;decide +kernel) | (show mixChk _ 13 = true;decide +kernel) | (show mixChk _ 14 = true;decide +kernel) | (show mixChk _ 15 = true;decide +kernel) | (show mixChk _ 16 = true;decide +kernel) | (show mixChk _ 17 = true;decide +kernel) | (show mixChk _ 18 = true;decide +kernel) | (show mixChk _ 19 = true;decide +kernel) | (show mixChk _ 20 = true;decide +kernel) | (show mixChk _ 21 = true;decide +kernel) | (show mixChk _ 22 = true;decide +kernel) | (show mixChk _ 23 = true;decide +kernel) | (show mixChk _ 24 = true;decide +kernel) | (show mixChk _ 25 = true;decide +kernel) | (show mixChk _ 26 = true;decide +kernel) | (show mixChk _ 27 = true;decide +kernel) | (show mixChk _ 28 = true;decide +kernel) | (show mixChk _ 29 = true;decide +kernel) | (show mixChk _ 30 = true;decide +kernel) | (show mixChk _ 31 = true;decide +kernel) | (show mixChk _ 32 = true;decide +kernel) | (show mixChk _ 33 = true;decide +kernel) | (show mixChk _ 34 = true;decide +kernel) | (show mixChk _ 35 = true;decide +kernel) | (show mixChk _ 36 = true;decide +kernel) | (show mixChk _ 37 = true;decide +kernel) | (show mixChk _ 38 = true;decide +kernel) | (show mixChk _ 39 = true;decide +kernel) | (show mixChk _ 40 = true;decide +kernel) | (show mixChk _ 41 = true;decide +kernel) | (show mixChk _ 42 = true;decide +kernel) | (show mixChk _ 43 = true;decide +kernel) | (show mixChk _ 44 = true;decide +kernel) | (show mixChk _ 45 = true;decide +kernel) | (show mixChk _ 46 = true;decide +kernel) | (show mixChk _ 47 = true;decide +kernel) | (show mixChk _ 48 = true;decide +kernel) | (show mixChk _ 49 = true;decide +kernel) | (show mixChk _ 50 = true;decide +kernel) | (show mixChk _ 51 = true;decide +kernel) | (show mixChk _ 52 = true;decide +kernel) | (show mixChk _ 53 = true;decide +kernel) | (show mixChk _ 54 = true;decide +kernel) | (show mixChk _ 55 = true;decide +kernel) | (show mixChk _ 56 = true;decide +kernel) | (show mixChk _ 57 = true;decide +kernel) | (show mixChk _ 58 = true;decide +kernel) | (show mixChk _ 59 = true;decide +kernel) | (show mixChk _ 60 = true;decide +kernel))
  (hl : lopsL (dsts ops.toList) ops.toList = lo:=by (dsimp only [lopsL,dsts,lop,nth]) <;> rfl) [hmix : MixT P] : EvL P (frn N) m (.drawn ops) e s K:=EvL.mixk n hmix.h hchk fun k hk=>hl ▸ h k hk
theorem EvL.mix2A {ops : Array Oper} {n : Nat} {lo : List LOp} (h : ∀ k : Env → Store → Prop,(∀ e' s',K .normal e' s' → k e' s') → WMix P (frn N) true n lo e s [] k)
  (hchk : mixChk ops n true = true:=by first | (show mixChk _ 0 true = true;decide +kernel) | (show mixChk _ 1 true = true;decide +kernel) | (show mixChk _ 2 true = true;decide +kernel) | (show mixChk _ 3 true = true;decide +kernel) | (show mixChk _ 4 true = true;decide +kernel) | (show mixChk _ 5 true = true;decide +kernel) | (show mixChk _ 6 true = true;decide +kernel) | (show mixChk _ 7 true = true;decide +kernel) | (show mixChk _ 8 true = true;decide +kernel) | (show mixChk _ 9 true = true;decide +kernel) | (show mixChk _ 10 true = true;decide +kernel) | (show mixChk _ 11 true = true;decide +kernel) | (show mixChk _ 12 true = true;decide +kernel) | (show mixChk _ 13 true = true;decide +kernel) | (show mixChk _ 14 true = true;decide +kernel) | (show mixChk _ 15 true = true;decide +kernel) | (show mixChk _ 16 true = true;decide +kernel) | (show mixChk _ 17 true = true;decide +kernel) | (show mixChk _ 18 true = true;decide +kernel) | (show mixChk _ 19 true = true;decide +kernel) | (show mixChk _ 20 true = true;decide +kernel) | (show mixChk _ 21 true = true;decide +kernel) | (show mixChk _ 22 true = true;decide +kernel) | (show mixChk _ 23 true = true;decide +kernel) | (show mixChk _ 24 true = true;decide +kernel) | (show mixChk _ 25 true = true;decide +kernel) | (show mixChk _ 26 true = true;decide +kernel) | (show mixChk _ 27 true = true;decide +kernel) | (show mixChk _ 28 true = true;decide +kernel) | (show mixChk _ 29 true = true;decide +kernel) | (show mixChk _ 30 true = true;decide +kernel) | (show mixChk _ 31 true = true;decide +kernel) | (show mixChk _ 32 true = true;decide +kernel) | (show mixChk _ 33 true = true;decide +kernel) | (show mixChk _ 34 true = true;decide +kernel) | (show mixChk _ 35 true = true;decide +kernel) | (show mixChk _ 36 true = true;decide +kernel) | (show mixChk _ 37 true = true;decide +kernel) | (show mixChk _ 38 true = true;decide +kernel) | (show mixChk _ 39 true = true;decide +kernel) | (show mixChk _ 40 true = true;decide +kernel) | (show mixChk _ 41 true = true;decide +kernel) | (show mixChk _ 42 true = true;decide +kernel) | (show mixChk _ 43 true = true;decide +kernel) | (show mixChk _ 44 true = true;decide +kernel) | (show mixChk _ 45 true = true;decide +kernel) | (show mixChk _ 46 true = true;decide +kernel) | (show mixChk _ 47 true = true;decide +kernel) | (show mixChk _ 48 true = true;decide +kernel) | (show mixChk _ 49 true = true;decide +kernel) | (show mixChk _ 50 true = true;decide +kernel) | (show mixChk _ 51 true = true;decide +kernel) | (show mixChk _ 52 true = true;decide +kernel) | (show mixChk _ 53 true = true;decide +kernel) | (show mixChk _ 54 true = true;decide +kernel) | (show mixChk _ 55 true = true;decide +kernel) | (show mixChk _ 56 true = true;decide +kernel) | (show mixChk _ 57 true = true;decide +kernel) | (show mixChk _ 58 true = true;decide +kernel) | (show mixChk _ 59 true = true;decide +kernel) | (show mixChk _ 60 true = true;decide +kernel))
  (hl : lopsL (dsts ops.toList) ops.toList = lo:=by (dsimp only [lopsL,dsts,lop,nth]) <;> rfl) [hmix : MixT P] : EvL P (frn N) m (.drawn ops) e s K:=EvL.mixk2 n hmix.h hchk fun k hk=>hl ▸ h k hk
theorem WMix.takeA {sw : Bool} {n : Nat} {d : Option Tmp} {op : Op} {g : Nat} {b : Bool} {r : List LOp} {f : Store} (x : WMix P (frn N) sw (n + 1) (⟨d,op,none⟩ :: r) e s f k) (h : e g = .bool b:=by (simp only [vsa,vsb,vsc,Nat.reduceAdd,Nat.reduceLT,evO,ofConst,Env.upd,envOf,argEnv,reduceIte,Nat.reduceEqDiff,reduceCtorEq]) <;> rfl) (hn : (sw && n == 0) = false:=by decide) : WMix P (frn N) sw (n + 1) (⟨d,op,some (some g,b)⟩ :: r) e s f k:=by
 obtain ⟨hd,h1⟩:=x
 refine ⟨hd,?_⟩
 rcases h1 with ⟨v,h2,h3,_⟩ | ⟨hf,_,v,f2,hne,h2,h3⟩
 ·exact .inl ⟨v,fun t=>⟨some b,by rw [h];rfl,fun _=>h2 t,fun hb=>absurd rfl hb⟩,h3,fun h=>by rw [hn] at h;cases h⟩
 ·exact .inr ⟨hf,hn,v,f2,hne,⟨some b,by rw [h];rfl,fun _=>h2,fun hb=>absurd rfl hb⟩,h3⟩
theorem WMix.passA {sw : Bool} {n : Nat} {d : Option Tmp} {op : Op} {g : Nat} {b : Bool} {r : List LOp} {f : Store} (x : WMix P (frn N) sw n r (e.upd d (.tuple [])) s f k) (h : e g = .bool (!b):=by (simp only [vsa,vsb,vsc,Nat.reduceAdd,Nat.reduceLT,evO,ofConst,Env.upd,envOf,argEnv,reduceIte,Nat.reduceEqDiff,reduceCtorEq]) <;> rfl) (hd : ∀ t,d = some t → t < N:=by simp only [lga,lgb,lgc,lgd,lge,lgf,lgg,lgh,lgi,lgj,lgk,nn,reduceCtorEq,reduceIte,Nat.reduceEqDiff,Nat.reduceLT,Nat.reduceAdd,Nat.reduceMul,Nat.reduceLeDiff,Int.toNat_natCast,Int.toNat_zero,Int.toNat_one,Int.reduceToNat,Int.reduceLE,Int.reduceLT,ne_eq,eq_self,Int.natCast_zero,Int.cast_ofNat_Int,Int.natCast_add,Int.natCast_one,Int.reduceNeg,Int.reduceSub,beq_self_eq_true,bne_self_eq_false]) (hn : (sw && n == 0) = false:=by decide) : WMix P (frn N) sw (n + 1) (⟨d,op,some (some g,b)⟩ :: r) e s f k:=
 WMix.cons (o:=⟨d,op,some (some g,b)⟩) (v:=.tuple []) (frl hd) hn (fun t=>⟨some (!b),by rw [h];rfl,(fun hb=>by cases b <;> cases hb),(fun _=>⟨rfl,rfl⟩)⟩) x
theorem WMix.consA {sw : Bool} (F : p) {n : Nat} {d : Option Tmp} {op : Op} {g : Option (Option Nat × Bool)} {r : List LOp} {f : Store} {v : PV} (x : WMix P (frn N) sw n r (e.upd d v) s f k)
  (hd : ∀ t,d = some t → t < N:=by simp only [lga,lgb,lgc,lgd,lge,lgf,lgg,lgh,lgi,lgj,lgk,nn,reduceCtorEq,reduceIte,Nat.reduceEqDiff,Nat.reduceLT,Nat.reduceAdd,Nat.reduceMul,Nat.reduceLeDiff,Int.toNat_natCast,Int.toNat_zero,Int.toNat_one,Int.reduceToNat,Int.reduceLE,Int.reduceLT,ne_eq,eq_self,Int.natCast_zero,Int.cast_ofNat_Int,Int.natCast_add,Int.natCast_one,Int.reduceNeg,Int.reduceSub,beq_self_eq_true,bne_self_eq_false])
  (h : p → ∀ t,WG P ⟨d,op,g⟩ e (s ++ t) (fun v' s'=>v' = v ∧ s' = s ++ t):=by intro hF t;simp only [WG,WOp,WCall,plainEqAt,plainEq,Option.bind_some,WLoad,WStore,rowA,readP,evO,ofConst,Env.upd,envOf,argEnv,binP,intP,strP,shiftP,lenP,lenKind,cellsP,isCell,WFieldAddr,WField,WIndexAddr,WIndex,WMake,WSlice,boundP,WBuild,fillP,WBuildSlice,fillRows,WApp,WAppend,WSrc,isDst,killP,spliceP,WNext,WRes,WClear,putRows,tyI,zoI,lga,lgb,lgc,lgd,lge,lgf,lgg,lgh,lgi,lgj,lgk,nn,reduceCtorEq,reduceIte,Nat.reduceEqDiff,Nat.reduceLT,Nat.reduceAdd,Nat.reduceMul,Nat.reduceLeDiff,Int.toNat_natCast,Int.toNat_zero,Int.toNat_one,Int.reduceToNat,Int.reduceLE,Int.reduceLT,ne_eq,eq_self,Int.natCast_zero,Int.cast_ofNat_Int,Int.natCast_add,Int.natCast_one,Int.reduceNeg,Int.reduceSub,beq_self_eq_true,bne_self_eq_false,hF] <;> (first | rfl | exact ⟨rfl,rfl⟩ | exact ⟨by omega,rfl⟩ | exact ⟨by omega,rfl,rfl⟩)) (hn : (sw && n == 0) = false:=by decide) : WMix P (frn N) sw (n + 1) (⟨d,op,g⟩ :: r) e s f k:=WMix.cons (frl hd) hn (h F) x
theorem WMix.bothA (F : p) {d : Option Tmp} {op : Op} {g : Option (Option Nat × Bool)} {b c : LOp} {f : Store} {v : PV} (x : WOps P (frn N) [b,c] (e.upd d v) (s ++ f) k) (y : WOps P (frn N) [b,⟨d,op,g⟩,c] e (s ++ f) k)
  (hd : ∀ t,d = some t → t < N:=by simp only [lga,lgb,lgc,lgd,lge,lgf,lgg,lgh,lgi,lgj,lgk,nn,reduceCtorEq,reduceIte,Nat.reduceEqDiff,Nat.reduceLT,Nat.reduceAdd,Nat.reduceMul,Nat.reduceLeDiff,Int.toNat_natCast,Int.toNat_zero,Int.toNat_one,Int.reduceToNat,Int.reduceLE,Int.reduceLT,ne_eq,eq_self,Int.natCast_zero,Int.cast_ofNat_Int,Int.natCast_add,Int.natCast_one,Int.reduceNeg,Int.reduceSub,beq_self_eq_true,bne_self_eq_false])
  (h : p → ∀ t,WG P ⟨d,op,g⟩ e (s ++ t) (fun v' s'=>v' = v ∧ s' = s ++ t):=by intro hF t;simp only [WG,WOp,WCall,plainEqAt,plainEq,Option.bind_some,WLoad,WStore,rowA,readP,evO,ofConst,Env.upd,envOf,argEnv,binP,intP,strP,shiftP,lenP,lenKind,cellsP,isCell,WFieldAddr,WField,WIndexAddr,WIndex,WMake,WSlice,boundP,WBuild,fillP,WBuildSlice,fillRows,WApp,WAppend,WSrc,isDst,killP,spliceP,WNext,WRes,WClear,putRows,tyI,zoI,lga,lgb,lgc,lgd,lge,lgf,lgg,lgh,lgi,lgj,lgk,nn,reduceCtorEq,reduceIte,Nat.reduceEqDiff,Nat.reduceLT,Nat.reduceAdd,Nat.reduceMul,Nat.reduceLeDiff,Int.toNat_natCast,Int.toNat_zero,Int.toNat_one,Int.reduceToNat,Int.reduceLE,Int.reduceLT,ne_eq,eq_self,Int.natCast_zero,Int.cast_ofNat_Int,Int.natCast_add,Int.natCast_one,Int.reduceNeg,Int.reduceSub,beq_self_eq_true,bne_self_eq_false,hF] <;> (first | rfl | exact ⟨rfl,rfl⟩ | exact ⟨by omega,rfl⟩ | exact ⟨by omega,rfl,rfl⟩)) : WMix P (frn N) true 1 [⟨d,op,g⟩,b,c] e s f k:=WMix.both (frl hd) (h F) x y
theorem WMix.makeA {sw : Bool} (F : p) {n : Nat} {d : Option Tmp} {op : Op} {g : Option (Option Nat × Bool)} {r : List LOp} {v : PV} {f2 : Store} (x : WMix P (frn N) sw n r (e.upd d v) s f2 k)
  (hd : ∀ t,d = some t → t < N:=by simp only [lga,lgb,lgc,lgd,lge,lgf,lgg,lgh,lgi,lgj,lgk,nn,reduceCtorEq,reduceIte,Nat.reduceEqDiff,Nat.reduceLT,Nat.reduceAdd,Nat.reduceMul,Nat.reduceLeDiff,Int.toNat_natCast,Int.toNat_zero,Int.toNat_one,Int.reduceToNat,Int.reduceLE,Int.reduceLT,ne_eq,eq_self,Int.natCast_zero,Int.cast_ofNat_Int,Int.natCast_add,Int.natCast_one,Int.reduceNeg,Int.reduceSub,beq_self_eq_true,bne_self_eq_false])
  (h : p → WG P ⟨d,op,g⟩ e s (fun v' s'=>v' = v ∧ s' = s ++ f2):=by intro hF;simp only [WG,WOp,WCall,plainEqAt,plainEq,Option.bind_some,WLoad,WStore,rowA,readP,evO,ofConst,Env.upd,envOf,argEnv,binP,intP,strP,shiftP,lenP,lenKind,cellsP,isCell,WFieldAddr,WField,WIndexAddr,WIndex,WMake,WSlice,boundP,WBuild,fillP,WBuildSlice,fillRows,WApp,WAppend,WSrc,isDst,killP,spliceP,WNext,WRes,WClear,putRows,tyI,zoI,lga,lgb,lgc,lgd,lge,lgf,lgg,lgh,lgi,lgj,lgk,nn,reduceCtorEq,reduceIte,Nat.reduceEqDiff,Nat.reduceLT,Nat.reduceAdd,Nat.reduceMul,Nat.reduceLeDiff,Int.toNat_natCast,Int.toNat_zero,Int.toNat_one,Int.reduceToNat,Int.reduceLE,Int.reduceLT,ne_eq,eq_self,Int.natCast_zero,Int.cast_ofNat_Int,Int.natCast_add,Int.natCast_one,Int.reduceNeg,Int.reduceSub,beq_self_eq_true,bne_self_eq_false,hF];exact ⟨rfl,rfl⟩) (hf : f2 ≠ []:=by exact List.cons_ne_nil _ _) (hn : (sw && n == 0) = false:=by decide) : WMix P (frn N) sw (n + 1) (⟨d,op,g⟩ :: r) e s [] k:=WMix.make (frl hd) hn (h F) hf x
theorem finA {rs : List ResultVar} {v : PV} {s' : Store} {x : Exit} {r : Prop} (y : r)
  (h : r → finK P m rs v s' x e s:=by first | (intro y;refine ⟨trivial,?_⟩;simp only [WOp,WCall,plainEqAt,plainEq,Option.bind_some,WLoad,WStore,rowA,readP,evO,ofConst,Env.upd,envOf,argEnv,binP,intP,strP,shiftP,lenP,lenKind,cellsP,isCell,WFieldAddr,WField,WIndexAddr,WIndex,WMake,WSlice,boundP,WBuild,fillP,WBuildSlice,fillRows,WApp,WAppend,WSrc,isDst,killP,spliceP,WNext,WRes,WClear,putRows,tyI,zoI,lga,lgb,lgc,lgd,lge,lgf,lgg,lgh,lgi,lgj,lgk,nn,reduceCtorEq,reduceIte,Nat.reduceEqDiff,Nat.reduceLT,Nat.reduceAdd,Nat.reduceMul,Nat.reduceLeDiff,Int.toNat_natCast,Int.toNat_zero,Int.toNat_one,Int.reduceToNat,Int.reduceLE,Int.reduceLT,ne_eq,eq_self,Int.natCast_zero,Int.cast_ofNat_Int,Int.natCast_add,Int.natCast_one,Int.reduceNeg,Int.reduceSub,beq_self_eq_true,bne_self_eq_false];refine RetView.done 6 ?_;simp only [deref,retV,lga,lgb,lgc,lgd,lge,lgf,lgg,lgh,lgi,lgj,lgk,nn,reduceCtorEq,reduceIte,Nat.reduceEqDiff,Nat.reduceLT,Nat.reduceAdd,Nat.reduceMul,Nat.reduceLeDiff,Int.toNat_natCast,Int.toNat_zero,Int.toNat_one,Int.reduceToNat,Int.reduceLE,Int.reduceLT,ne_eq,eq_self,Int.natCast_zero,Int.cast_ofNat_Int,Int.natCast_add,Int.natCast_one,Int.reduceNeg,Int.reduceSub,beq_self_eq_true,bne_self_eq_false];exact y) | (intro (y : True);refine ⟨trivial,?_⟩;simp only [WOp,WCall,plainEqAt,plainEq,Option.bind_some,WLoad,WStore,rowA,readP,evO,ofConst,Env.upd,envOf,argEnv,binP,intP,strP,shiftP,lenP,lenKind,cellsP,isCell,WFieldAddr,WField,WIndexAddr,WIndex,WMake,WSlice,boundP,WBuild,fillP,WBuildSlice,fillRows,WApp,WAppend,WSrc,isDst,killP,spliceP,WNext,WRes,WClear,putRows,tyI,zoI,lga,lgb,lgc,lgd,lge,lgf,lgg,lgh,lgi,lgj,lgk,nn,reduceCtorEq,reduceIte,Nat.reduceEqDiff,Nat.reduceLT,Nat.reduceAdd,Nat.reduceMul,Nat.reduceLeDiff,Int.toNat_natCast,Int.toNat_zero,Int.toNat_one,Int.reduceToNat,Int.reduceLE,Int.reduceLT,ne_eq,eq_self,Int.natCast_zero,Int.cast_ofNat_Int,Int.natCast_add,Int.natCast_one,Int.reduceNeg,Int.reduceSub,beq_self_eq_true,bne_self_eq_false];refine RetView.done 6 ?_;simp only [deref,retV,lga,lgb,lgc,lgd,lge,lgf,lgg,lgh,lgi,lgj,lgk,nn,reduceCtorEq,reduceIte,Nat.reduceEqDiff,Nat.reduceLT,Nat.reduceAdd,Nat.reduceMul,Nat.reduceLeDiff,Int.toNat_natCast,Int.toNat_zero,Int.toNat_one,Int.reduceToNat,Int.reduceLE,Int.reduceLT,ne_eq,eq_self,Int.natCast_zero,Int.cast_ofNat_Int,Int.natCast_add,Int.natCast_one,Int.reduceNeg,Int.reduceSub,beq_self_eq_true,bne_self_eq_false];done)) : finK P m rs v s' x e s:=h y
theorem vw {g r : Prop} (x : r) (h : r → g:=by first | (intro x;simp only [StoreRen,RenObjD,RenEnv,RenL,renRows_cons_iff,renRows_nil_iff,ren_int,ren_bool,ren_str,ren_list,ren_iptr,ren_nilsl,ren_nilptr,ren_niliface,ren_nilfn,ren_any,ren_sl,ren_ptr,ren_agg,ren_tuple,ren_fn,Env.upd,envOf,argEnv,evO,lga,lgb,lgc,lgd,lge,lgf,lgg,lgh,lgi,lgj,lgk,nn,reduceCtorEq,reduceIte,Nat.reduceEqDiff,Nat.reduceLT,Nat.reduceAdd,Nat.reduceMul,Nat.reduceLeDiff,Int.toNat_natCast,Int.toNat_zero,Int.toNat_one,Int.reduceToNat,Int.reduceLE,Int.reduceLT,ne_eq,eq_self,Int.natCast_zero,Int.cast_ofNat_Int,Int.natCast_add,Int.natCast_one,Int.reduceNeg,Int.reduceSub,beq_self_eq_true,bne_self_eq_false];exact x) | (intro (x : True);simp only [StoreRen,RenObjD,RenEnv,RenL,renRows_cons_iff,renRows_nil_iff,ren_int,ren_bool,ren_str,ren_list,ren_iptr,ren_nilsl,ren_nilptr,ren_niliface,ren_nilfn,ren_any,ren_sl,ren_ptr,ren_agg,ren_tuple,ren_fn,Env.upd,envOf,argEnv,evO,lga,lgb,lgc,lgd,lge,lgf,lgg,lgh,lgi,lgj,lgk,nn,reduceCtorEq,reduceIte,Nat.reduceEqDiff,Nat.reduceLT,Nat.reduceAdd,Nat.reduceMul,Nat.reduceLeDiff,Int.toNat_natCast,Int.toNat_zero,Int.toNat_one,Int.reduceToNat,Int.reduceLE,Int.reduceLT,ne_eq,eq_self,Int.natCast_zero,Int.cast_ofNat_Int,Int.natCast_add,Int.natCast_one,Int.reduceNeg,Int.reduceSub,beq_self_eq_true,bne_self_eq_false];done)) : g:=h x
end
end Go.Pv
