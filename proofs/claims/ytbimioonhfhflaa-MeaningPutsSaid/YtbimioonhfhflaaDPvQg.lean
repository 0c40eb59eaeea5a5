import Derived.Test.YtbimioonhfhflaaDPvQf
set_option linter.unusedVariables false
set_option linter.unusedSimpArgs false
namespace Go.Pv
open Go
def up0 (ρ : List Nat) : PV → PV
 | .sl j off len=>match ρ[j]? with
  | some i=>.sl i off len
  | none=>.any
 | .ptr j r off=>match ρ[j]? with
  | some i=>.ptr i r off
  | none=>.any
 | .mapv j=>match ρ[j]? with
  | some i=>.mapv i
  | none=>.any
 | .agg _=>.any
 | .tuple _=>.any
 | .fn _ _ _=>.any
 | .iface _ _=>.any
 | v=>v
def upN (ρ : List Nat) : Nat → PV → PV
 | 0,v=>up0 ρ v
 | n + 1,.agg cs=>.agg (cs.map (upN ρ n))
 | n + 1,.tuple cs=>.tuple (cs.map (upN ρ n))
 | n + 1,.fn f xs ys=>.fn f (xs.map (upN ρ n)) (ys.map (upN ρ n))
 | n + 1,.iface t v=>.iface t (upN ρ n v)
 | n + 1,v=>up0 ρ v
def upObj (ρ : List Nat) : PObj → PObj
 | .rows z rs=>.rows z (rs.map (List.map (upN ρ 4)))
 | .map es=>.map (es.map fun p=>(upN ρ 4 p.1,upN ρ 4 p.2))
 | o=>o
section
variable {pub q : PHeap} {σ τ : Sig} {ρ : List Nat}
theorem up0_rel (h : ∀ j i,ρ[j]? = some i → σ.le σ → τ i = σ j) {v : PV} {c : Value} (hr : Rel pub σ v c) : Rel pub τ (up0 ρ v) c:=by
 cases hr with
 | sl hσ a b d=>
  simp only [up0];split
  ·rename_i i hi;exact .sl ((h _ _ hi Sig.le.rfl').trans hσ) a b d
  ·exact .any
 | ptr hσ=>
  simp only [up0];split
  ·rename_i i hi;exact .ptr ((h _ _ hi Sig.le.rfl').trans hσ)
  ·exact .any
 | list a b c d e f=>exact .list a b c d e f
 | iptr a b c=>exact .iptr a b c
 | int=>exact .int
 | bool=>exact .bool
 | str h=>exact .str h
 | nilsl=>exact .nilsl
 | list0 h=>exact .list0 h
 | nilptr=>exact .nilptr
 | nilfn=>exact .nilfn
 | niliface=>exact .niliface
 | nilmap=>exact .nilmap
 | mapv hσ=>
  simp only [up0];split
  ·rename_i i hi;exact .mapv ((h _ _ hi Sig.le.rfl').trans hσ)
  ·exact .any
 | imap a b c d=>exact .imap a b c d
 | clip a b=>exact .clip a b
 | any=>exact .any
 | agg _ _=>exact .any
 | tuple _ _=>exact .any
 | fn _ _ _ _=>exact .any
 | iface _=>exact .any
theorem upN_rel (h : ∀ j i,ρ[j]? = some i → σ.le σ → τ i = σ j) : ∀ (n : Nat) {v : PV} {c : Value},Rel pub σ v c → Rel pub τ (upN ρ n v) c
 | 0,v,c,hr=>up0_rel h hr
 | n + 1,v,c,hr=>by
  have key : ∀ (xs : List PV) (arr : Array Value),(∀ (j : Nat) (v : PV) (c : Value),xs[j]? = some v → arr[j]? = some c → Rel pub σ v c) → ∀ (j : Nat) (v : PV) (c : Value),(xs.map (upN ρ n))[j]? = some v → arr[j]? = some c → Rel pub τ v c:=by
   intro xs arr hx j v c hv hc
   rw [List.getElem?_map,Option.map_eq_some_iff] at hv
   obtain ⟨u,hu,rfl⟩:=hv
   exact upN_rel h n (hx j u c hu hc)
  cases hr with
  | agg a b=>exact .agg (by simpa using a) (key _ _ b)
  | tuple a b=>exact .tuple (by simpa using a) (key _ _ b)
  | fn a b c d=>exact .fn (by simpa using a) (key _ _ b) (by simpa using c) (key _ _ d)
  | iface a=>exact .iface (upN_rel h n a)
  | sl hσ a b d=>exact up0_rel h (.sl hσ a b d)
  | ptr hσ=>exact up0_rel h (.ptr hσ)
  | list a b c d e f=>exact .list a b c d e f
  | iptr a b c=>exact .iptr a b c
  | int=>exact .int
  | bool=>exact .bool
  | str h=>exact .str h
  | nilsl=>exact .nilsl
  | list0 h=>exact .list0 h
  | nilptr=>exact .nilptr
  | nilfn=>exact .nilfn
  | niliface=>exact .niliface
  | nilmap=>exact .nilmap
  | mapv hσ=>exact up0_rel h (.mapv hσ)
  | imap a b c d=>exact .imap a b c d
  | clip a b=>exact .clip a b
  | any=>exact .any
theorem upObj_ok {w : World} {i j : Nat} {o : PObj} (h : ∀ j i,ρ[j]? = some i → σ.le σ → τ i = σ j) (hij : τ i = σ j) (ho : ObjOK pub σ w j o) : ObjOK pub τ w i (upObj ρ o):=by
 cases o with
 | dead=>trivial
 | iter t p=>obtain ⟨l,h1,r⟩:=ho;exact ⟨l,hij.trans h1,r⟩
 | map es=>
  obtain ⟨l,h1,h2,h3,h4,h5,xs,clock,h6,h7,h8⟩:=ho
  refine ⟨l,hij.trans h1,h2,h3,h4,h5,xs,clock,h6,by simpa using h7,fun j' k v e ha hb=>?_⟩
  rw [List.getElem?_map,Option.map_eq_some_iff] at ha
  obtain ⟨p,hp,hpe⟩:=ha
  cases hpe
  have:=h8 j' _ _ e hp hb
  exact ⟨upN_rel h 4 this.1,upN_rel h 4 this.2⟩
 | rows z rs=>
  obtain ⟨l,h1,h2,h3,h4⟩:=ho
  refine ⟨l,hij.trans h1,h2,by simpa using h3,fun hn=>?_⟩
  obtain ⟨h5,cs,ty,h6,h7,h8⟩:=h4 hn
  refine ⟨h5,cs,ty,h6,h7,fun r row hr=>?_,fun r row k v c hr hk hc=>?_⟩
  ·rw [List.getElem?_map,Option.map_eq_some_iff] at hr
   obtain ⟨row0,g1,rfl⟩:=hr
   simpa using h8.wide r row0 g1
  ·rw [List.getElem?_map,Option.map_eq_some_iff] at hr
   obtain ⟨row0,g1,rfl⟩:=hr
   rw [List.getElem?_map,Option.map_eq_some_iff] at hk
   obtain ⟨u,g2,rfl⟩:=hk
   exact upN_rel h 4 (h8.rel r row0 k u c g1 g2 hc)
end
def backS (ρ : List Nat) (t s0' : Store) : Store:=
 (t.mapIdx fun i o=>match posn i ρ 0 with
  | some j=>upObj (ρ ++ List.range' t.length (s0'.length - ρ.length)) (s0'[j]?.getD .dead)
  | none=>o) ++ (s0'.drop ρ.length).map (upObj (ρ ++ List.range' t.length (s0'.length - ρ.length)))
theorem posn_none {i : Nat} : ∀ {ρ : List Nat} {k : Nat},posn i ρ k = none → i ∉ ρ
 | [],_,_=>by simp
 | j :: r,k,h=>by
  unfold posn at h
  split at h
  ·cases h
  ·rename_i e
   simp only [List.mem_cons,not_or];exact ⟨fun g=>e g.symm,posn_none h⟩
theorem posn_at {ρ : List Nat} (hnd : ρ.Nodup) {i j : Nat} (h : ρ[j]? = some i) : posn i ρ 0 = some j:=by
 cases hp : posn i ρ 0 with
 | none=>exact absurd (List.mem_of_getElem? h) (posn_none hp)
 | some k=>
  obtain ⟨k',h1,h2⟩:=posn_some hp
  have : k' = j:=(List.getElem?_inj (lt_of_getElem? h2) hnd).1 (h2.trans h.symm)
  simp [h1,this]
def backσ (ρ : List Nat) (t s0' : Store) (σ σ0' : Sig) : Sig:=fun i=>
 if i < t.length then (match posn i ρ 0 with
  | some j=>σ0' j
  | none=>σ i) else σ0' (ρ.length + (i - t.length))
theorem SR.back {pub pub1 pub' q : PHeap} {σ σ0' : Sig} {ρ : List Nat} {t s0 s0' : Store} {w w' : World} (hb : Base pub σ t w) (hnd : ρ.Nodup) (hin : ∀ i ∈ ρ,i < t.length) (hlen : s0.length = ρ.length) (hlen' : ρ.length ≤ s0'.length)
  (hal : ∀ j l,Alive s0 (σ.ren ρ) j l → ∃ i,ρ[j]? = some i ∧ Alive t σ i l) (hs : SR ⟨w,pub1,σ.ren ρ,dom s0 (σ.ren ρ)⟩ pub' σ0' s0' w')
  (ha : pub.le q) (hq : ∀ b o,q b = some o → w'.heap[b]? = some o) (hc : ∀ b,b < w.heap.size → ¬ dom s0 (σ.ren ρ) b → q b = pub b) (hd : ∀ j o,s0'[j]? = some o → ObjOK q σ0' w' j o) :
  SR ⟨w,pub,σ,dom t σ⟩ q (backσ ρ t s0' σ σ0') (backS ρ t s0') w' ∧ ∀ j i,(ρ ++ List.range' t.length (s0'.length - ρ.length))[j]? = some i → (backσ ρ t s0' σ σ0') i = σ0' j:=by
 have hσ : ∀ j i,(ρ ++ List.range' t.length (s0'.length - ρ.length))[j]? = some i → (backσ ρ t s0' σ σ0') i = σ0' j:=by
  intro j i h
  unfold backσ
  rcases Nat.lt_or_ge j ρ.length with hj | hj
  ·rw [List.getElem?_append_left hj] at h
   rw [if_pos (hin i (List.mem_of_getElem? h)),posn_at hnd h]
  ·rw [List.getElem?_append_right hj] at h
   obtain ⟨h1,h2⟩:=List.getElem?_eq_some_iff.1 h
   simp only [List.length_range'] at h1
   simp only [List.getElem_range'] at h2
   rw [if_neg (by omega)]
   congr 1;omega
 have hlenT : (backS ρ t s0').length = t.length + (s0'.length - ρ.length):=by simp [backS]
 have hget : ∀ i o,(backS ρ t s0')[i]? = some o → (i < t.length ∧ posn i ρ 0 = none ∧ t[i]? = some o) ∨
   (∃ j o0,(backσ ρ t s0' σ σ0') i = σ0' j ∧ (ρ ++ List.range' t.length (s0'.length - ρ.length))[j]? = some i ∧ s0'[j]? = some o0 ∧ o = upObj (ρ ++ List.range' t.length (s0'.length - ρ.length)) o0):=by
  intro i o h
  unfold backS at h
  rcases Nat.lt_or_ge i t.length with hi | hi
  ·rw [List.getElem?_append_left (by simpa using hi),List.getElem?_mapIdx,Option.map_eq_some_iff] at h
   obtain ⟨o0,h1,h2⟩:=h
   split at h2
   ·rename_i j hp
    obtain ⟨j',g1,g2⟩:=posn_some hp
    have hj : j < ρ.length:=by have:=lt_of_getElem? g2;omega
    have hρ : (ρ ++ List.range' t.length (s0'.length - ρ.length))[j]? = some i:=by
     rw [List.getElem?_append_left hj,show j = j' by omega];exact g2
    refine .inr ⟨j,s0'[j]?.getD .dead,hσ j i hρ,hρ,?_,h2.symm⟩
    rw [List.getElem?_eq_getElem (show j < s0'.length by omega)];rfl
   ·rename_i hp
    subst h2
    exact .inl ⟨hi,hp,h1⟩
  ·rw [List.getElem?_append_right (by simpa using hi),List.getElem?_map,Option.map_eq_some_iff] at h
   obtain ⟨o0,h1,h2⟩:=h
   rw [List.getElem?_drop] at h1
   simp only [List.length_mapIdx] at h1
   have hlt:=lt_of_getElem? h1
   have hρ : (ρ ++ List.range' t.length (s0'.length - ρ.length))[ρ.length + (i - t.length)]? = some i:=by
    rw [List.getElem?_append_right (by omega),List.getElem?_eq_getElem (by simp;omega)]
    simp;omega
   exact .inr ⟨_,o0,hσ _ _ hρ,hρ,h1,h2.symm⟩
 have hup : σ.le (backσ ρ t s0' σ σ0'):=by
  intro i l hl
  have hi : i < t.length:=by
   rcases Nat.lt_or_ge i t.length with h | h;exact h
   rw [hb.sig i h] at hl;cases hl
  unfold backσ
  rw [if_pos hi]
  split
  ·rename_i j hp
   obtain ⟨j',g1,g2⟩:=posn_some hp
   rw [Nat.zero_add] at g1;subst g1
   exact hs.sle j l (by simp [Sig.ren,g2,hl])
  ·exact hl
 -- what is alive behind the call
 have halive : ∀ i l,Alive (backS ρ t s0') (backσ ρ t s0' σ σ0') i l → (posn i ρ 0 = none ∧ Alive t σ i l) ∨ (∃ j,(ρ ++ List.range' t.length (s0'.length - ρ.length))[j]? = some i ∧ Alive s0' σ0' j l):=by
  rintro i l ⟨o,h1,h2,h3,h4⟩
  rcases hget i o h1 with ⟨g1,g2,g3⟩ | ⟨j,o0,g1,g2,g3,g4⟩
  ·refine .inl ⟨g2,o,g3,h2,?_,h4⟩
   unfold backσ at h3
   rw [if_pos g1,g2] at h3;exact h3
  ·refine .inr ⟨j,g2,o0,g3,?_,g1 ▸ h3,h4⟩
   rintro rfl;exact h2 g4
 have hout : ∀ i l,posn i ρ 0 = none → Alive t σ i l → ¬ dom s0 (σ.ren ρ) l.b:=by
  rintro i l hp hi ⟨j,lj,hj,eb⟩
  obtain ⟨i',g1,g2⟩:=hal j lj hj
  have:=hb.inj i i' l lj hi g2 eb.symm
  subst this
  exact posn_none hp (List.mem_of_getElem? g1)
 refine ⟨{
  pubIn:=hq
  obj:=fun i o hi=>?_
  inj:=fun i j li lj hi hj eb=>?_
  sig:=fun i hi=>?_
  os:=hs.os,tape:=hs.tape,output:=hs.output,size:=hs.size
  frame:=fun b hb' hnd'=>?_
  own:=fun i l hi=>?_
  ple:=ha
  sle:=hup },hσ⟩
 ·rcases hget i o hi with ⟨g1,g2,g3⟩ | ⟨j,o0,g1,g2,g3,rfl⟩
  ·refine (hb.obj i o g3).mono ha hup fun l hdd hl hn => ?_
   have halv : Alive t σ i l:=⟨o,g3,hdd,hl,hn⟩
   have hlt:=(ObjOK.alive hb.obj halv).2
   have hnot:=hout i l g2 halv
   exact ⟨(hs.frame l.b hlt hnot).1,hc l.b hlt hnot⟩
  ·exact upObj_ok (fun j i h _=>hσ j i h) g1 (hd j o0 g3)
 ·rcases halive i li hi with ⟨g1,g2⟩ | ⟨k,g1,g2⟩ <;> rcases halive j lj hj with ⟨g3,g4⟩ | ⟨k',g3,g4⟩
  ·exact hb.inj i j li lj g2 g4 eb
  ·exfalso
   rcases hs.own k' lj g4 with ⟨m,lm,hm,em⟩ | hsz
   ·exact hout i li g1 g2 ⟨m,lm,hm,em.trans eb.symm⟩
   ·have := (ObjOK.alive hb.obj g2).2
    have hsz' : w.heap.size ≤ lj.b:=hsz
    omega
  ·exfalso
   rcases hs.own k li g2 with ⟨m,lm,hm,em⟩ | hsz
   ·exact hout j lj g3 g4 ⟨m,lm,hm,em.trans eb⟩
   ·have := (ObjOK.alive hb.obj g4).2
    have hsz' : w.heap.size ≤ li.b:=hsz
    omega
  ·have := hs.inj k k' li lj g2 g4 eb
   subst this
   rw [g1] at g3;exact Option.some.inj g3
 ·rw [hlenT] at hi
  unfold backσ
  rw [if_neg (by omega)]
  exact hs.sig _ (by omega)
 ·have hnd2 : ¬ dom s0 (σ.ren ρ) b := by
   rintro ⟨j,lj,hj,rfl⟩
   obtain ⟨i',g1,g2⟩:=hal j lj hj
   exact hnd' ⟨i',lj,g2,rfl⟩
  exact ⟨(hs.frame b hb' hnd2).1,hc b hb' hnd2⟩
 ·rcases halive i l hi with ⟨_,g2⟩ | ⟨k,_,g2⟩
  ·exact .inl ⟨i,l,g2,rfl⟩
  ·rcases hs.own k l g2 with ⟨m,lm,hm,em⟩ | hsz
   ·obtain ⟨i',g3,g4⟩ := hal m lm hm
    exact .inl ⟨i',lm,g4,em⟩
   ·exact .inr hsz
section
variable {P : Program} {f : FuncId} {args : List PV} {v0 : PV} {t s0' : Store}
theorem ren_base {pub : PHeap} {σ : Sig} {w : World} {ρ : List Nat} {s0 : Store} (hb : Base pub σ t w) (hnd : ρ.Nodup) (hlen : s0.length = ρ.length) (hobj : ∀ (j : Nat) (o' : PObj),s0[j]? = some o' → ∃ i o,ρ[j]? = some i ∧ t[i]? = some o ∧ RenObj ρ o' o) :
  Base pub (σ.ren ρ) s0 w ∧ ∀ j l,Alive s0 (σ.ren ρ) j l → ∃ i,ρ[j]? = some i ∧ Alive t σ i l:=by
 have halive : ∀ j l,Alive s0 (σ.ren ρ) j l → ∃ i,ρ[j]? = some i ∧ Alive t σ i l:=by
  rintro j l ⟨o',h1,h2,h3,h4⟩
  obtain ⟨i,o,h5,h6,h7⟩:=hobj j o' h1
  refine ⟨i,h5,o,h6,?_,by simpa [Sig.ren,h5] using h3,h4⟩
  rintro rfl;cases h7;exact h2 rfl
 refine ⟨{
  pubIn:=hb.pubIn
  obj:=fun j o' hj=>by
   obtain ⟨i,o,h1,h2,h3⟩:=hobj j o' hj
   exact h3.ok h1 (hb.obj i o h2)
  inj:=fun i j li lj hi hj eb=>by
   obtain ⟨i',h1,h2⟩:=halive i li hi
   obtain ⟨j',h3,h4⟩:=halive j lj hj
   have:=hb.inj i' j' li lj h2 h4 eb
   subst this
   exact (List.getElem?_inj (lt_of_getElem? h1) hnd).1 (h1.trans h3.symm)
  sig:=fun i hi=>by simp [Sig.ren,List.getElem?_eq_none (show ρ.length ≤ i by omega)] },halive⟩
theorem CallOK.sub (ρ : List Nat) (hnd : ρ.Nodup) (hin : ∀ i ∈ ρ,i < t.length) (hlen' : ρ.length ≤ s0'.length)
  (h : CallOK P f (args.map (renN ρ 4)) (ρ.map fun i=>renObj ρ ((t[i]?).getD .dead)) v0 s0') : CallOK P f args t (upN (ρ ++ List.range' t.length (s0'.length - ρ.length)) 4 v0) (backS ρ t s0'):=by
 intro pub σ w cargs hbase hargs
 obtain ⟨hb0,hal⟩:=ren_base (s0:=ρ.map fun i=>renObj ρ ((t[i]?).getD .dead)) hbase hnd (by simp) (by
  intro j o' hj
  rw [List.getElem?_map,Option.map_eq_some_iff] at hj
  obtain ⟨i,hi,rfl⟩:=hj
  have hil:=hin i (List.mem_of_getElem? hi)
  refine ⟨i,t[i],hi,List.getElem?_eq_getElem hil,?_⟩
  rw [List.getElem?_eq_getElem hil];exact renObj_ren ρ _)
 have hargs0 : RelA pub (σ.ren ρ) (args.map (renN ρ 4)) cargs:=⟨by simpa using hargs.1,fun j x y hx hy=>by
  rw [List.getElem?_map,Option.map_eq_some_iff] at hx
  obtain ⟨u,hu,rfl⟩:=hx
  exact (renN_ren ρ 4 u).rel (hargs.2 j u y hu hy)⟩
 refine Calls.mono (h pub (σ.ren ρ) w cargs hb0 hargs0) ?_
 rintro en w' ⟨cv,pub',σ0',rfl,hs',hr⟩
 obtain ⟨hs2,hσ⟩:=SR.back hbase hnd hin (by simp) hlen' hal hs' hs'.ple hs'.pubIn (fun b hb hn=>(hs'.frame b hb hn).2) hs'.obj
 exact ⟨cv,pub',_,rfl,hs2,upN_rel (fun j i h _=>hσ j i h) 4 hr⟩
end
section laws
variable {ρ : List Nat} {n j off len i r : Nat} {k : IntKind} {x : Int} {b : Bool} {t : ByteArray} {xs : List (List PV)} {cs ds : List PV} {es : List (PV × PV)} {f : Fn} {T : TypeId} {v : PV} {s : Store} {o : PObj}
@[simp] theorem up_int : upN ρ n (.int k x) = .int k x:=by cases n <;> rfl
@[simp] theorem up_bool : upN ρ n (.bool b) = .bool b:=by cases n <;> rfl
@[simp] theorem up_str : upN ρ n (.str t) = .str t:=by cases n <;> rfl
@[simp] theorem up_nilsl : upN ρ n .nilsl = .nilsl:=by cases n <;> rfl
@[simp] theorem up_list : upN ρ n (.list xs) = .list xs:=by cases n <;> rfl
@[simp] theorem up_nilptr : upN ρ n .nilptr = .nilptr:=by cases n <;> rfl
@[simp] theorem up_iptr : upN ρ n (.iptr cs) = .iptr cs:=by cases n <;> rfl
@[simp] theorem up_nilfn : upN ρ n .nilfn = .nilfn:=by cases n <;> rfl
@[simp] theorem up_niliface : upN ρ n .niliface = .niliface:=by cases n <;> rfl
@[simp] theorem up_nilmap : upN ρ n .nilmap = .nilmap:=by cases n <;> rfl
@[simp] theorem up_imap : upN ρ n (.imap es) = .imap es:=by cases n <;> rfl
@[simp] theorem up_clip {z : Nat} : upN ρ n (.clip z xs) = .clip z xs:=by cases n <;> rfl
@[simp] theorem up_any : upN ρ n .any = .any:=by cases n <;> rfl
@[simp] theorem up_agg : upN ρ (n + 1) (.agg cs) = .agg (cs.map (upN ρ n)):=rfl
@[simp] theorem up_tuple : upN ρ (n + 1) (.tuple cs) = .tuple (cs.map (upN ρ n)):=rfl
@[simp] theorem up_fn : upN ρ (n + 1) (.fn f cs ds) = .fn f (cs.map (upN ρ n)) (ds.map (upN ρ n)):=rfl
@[simp] theorem up_iface : upN ρ (n + 1) (.iface T v) = .iface T (upN ρ n v):=rfl
@[simp] theorem up_sl : upN ρ n (.sl j off len) = renSl off len ρ[j]?:=by cases n <;> (simp only [upN,up0];generalize ρ[j]? = o;cases o <;> rfl)
@[simp] theorem up_ptr : upN ρ n (.ptr j r off) = renPtr r off ρ[j]?:=by cases n <;> (simp only [upN,up0];generalize ρ[j]? = o;cases o <;> rfl)
@[simp] theorem up_mapv : upN ρ n (.mapv j) = renMap ρ[j]?:=by cases n <;> (simp only [upN,up0];generalize ρ[j]? = o;cases o <;> rfl)
@[simp] theorem upObj_dead : upObj ρ .dead = .dead:=rfl
@[simp] theorem upObj_iter : upObj ρ (.iter t n) = .iter t n:=rfl
@[simp] theorem upObj_rows : upObj ρ (.rows n xs) = .rows n (xs.map (List.map (upN ρ 4))):=rfl
@[simp] theorem upObj_map : upObj ρ (.map es) = .map (es.map fun p=>(upN ρ 4 p.1,upN ρ 4 p.2)):=rfl
def backO (ρ' : List Nat) (s0' : Store) (o : PObj) : Option Nat → PObj
 | some j=>upObj ρ' (s0'[j]?.getD .dead)
 | none=>o
@[simp] theorem backO_some : backO ρ s o (some j) = upObj ρ (s[j]?.getD .dead):=rfl
@[simp] theorem backO_none : backO ρ s o none = o:=rfl
def backGo (ρ ρ' : List Nat) (s0' : Store) : Nat → Store → Store
 | _,[]=>[]
 | i,o :: r=>backO ρ' s0' o (posn i ρ 0) :: backGo ρ ρ' s0' (i + 1) r
@[simp] theorem backGo_nil {ρ' : List Nat} : backGo ρ ρ' s i [] = []:=rfl
@[simp] theorem backGo_cons {ρ' : List Nat} {r : Store} : backGo ρ ρ' s i (o :: r) = backO ρ' s o (posn i ρ 0) :: backGo ρ ρ' s (i + 1) r:=rfl
theorem backGo_eq {ρ' : List Nat} : ∀ (r : Store) (i : Nat),backGo ρ ρ' s i r = r.mapIdx fun j o => match posn (i + j) ρ 0 with
  | some j=>upObj ρ' (s[j]?.getD .dead)
  | none=>o
 | [],i=>by simp
 | o :: r,i=>by
  rw [backGo_cons,backGo_eq r (i + 1),List.mapIdx_cons]
  congr 1
  congr 1;funext j o;rw [show i + 1 + j = i + (j + 1) by omega]
@[simp] theorem backS_eq {t : Store} : backS ρ t s = backGo ρ (ρ ++ List.range' t.length (s.length - ρ.length)) s 0 t ++ (s.drop ρ.length).map (upObj (ρ ++ List.range' t.length (s.length - ρ.length))):=by
 rw [backGo_eq];simp [backS]
end laws
section
variable {C : WC} {f : Operand} {args : Array Operand} {d : Option Tmp} {fid : FuncId} {vs : List PV} {e : AE} {s s2 : Store} {K : KS} {v : PV} {ops : List LOp}
theorem CL.sub [EnT C.P fid] (ρ : List Nat) (hc : CallOK C.P fid (vs.map (renN ρ 4)) (liveS ρ s ρ) v s2) (hk : O C .pl ops (updA e d (upN (ρ ++ List.range' s.length (s2.length - ρ.length)) 4 v)) (backS ρ s s2) K)
  (hnd : ρ.Nodup:=by simp) (hin : ∀ i ∈ ρ,i < s.length:=by simp) (hlen : ρ.length ≤ s2.length:=by simp) : CL C f args d (some (fid,vs)) ops e s K:=by
 refine .of (CallOK.sub ρ hnd hin hlen ?_) hk
 have : ∀ L : List Nat,liveS ρ s L = L.map fun i=>renObj ρ ((s[i]?).getD .dead):=by
  intro L;induction L with
  | nil=>rfl
  | cons t r ih=>rw [List.map_cons,← ih];rfl
 rw [← this];exact hc
end
section closed
@[simp] theorem cl_int {k : IntKind} {n : Int} : Closed (.int k n):=(flat_int k n).closed
@[simp] theorem cl_bool {b : Bool} : Closed (.bool b):=(flat_bool b).closed
@[simp] theorem cl_str {t : ByteArray} : Closed (.str t):=(flat_str t).closed
@[simp] theorem cl_nilsl : Closed .nilsl:=flat_nilsl.closed
@[simp] theorem cl_list {xs : List (List PV)} : Closed (.list xs):=closed_list xs
@[simp] theorem cl_iptr {xs : List PV} : Closed (.iptr xs):=closed_iptr xs
@[simp] theorem cl_niliface : Closed .niliface:=closed_niliface
@[simp] theorem cl_nilmap : Closed .nilmap:=fun _ _ _ h=>by cases h;exact .nilmap
@[simp] theorem cl_clip {z : Nat} {xs : List (List PV)} : Closed (.clip z xs):=fun _ _ _ h=>by cases h with | clip a b=>exact .clip a b
@[simp] theorem cl_imap {es : List (PV × PV)} : Closed (.imap es):=fun _ _ _ h=>by cases h;constructor <;> assumption
@[simp] theorem cl_nilptr : Closed .nilptr:=fun _ _ _ h=>by cases h;exact .nilptr
@[simp] theorem cl_nilfn : Closed .nilfn:=fun _ _ _ h=>by cases h;exact .nilfn
theorem flatV_closed {v : PV} (h : flatV v = true) (ha : v ≠ .any) : Closed v:=by
 intro pub σ c hr
 cases hr <;> first | (cases h;done) | (exact absurd rfl ha) | (constructor <;> assumption)
end closed
class FlatL (xs : List PV) : Prop where
 flat : xs.all flatV = true
 closed : ∀ v ∈ xs,Closed v
section
variable {k : IntKind} {n : Int} {b : Bool} {t : ByteArray} {xs : List PV} {rs : List (List PV)} {cs : List PV} {es : List (PV × PV)}
theorem FlatL.cons {v : PV} (h : flatV v = true) (ha : v ≠ .any) (g : FlatL xs) : FlatL (v :: xs):=
 ⟨by rw [List.all_cons,h,g.flat];rfl,fun u hu=>by cases hu with | head=>exact flatV_closed h ha | tail _ hu=>exact g.closed u hu⟩
instance : FlatL []:=⟨rfl,fun v h=>by cases h⟩
instance [g : FlatL xs] : FlatL (.int k n :: xs):=.cons rfl (by simp) g
instance [g : FlatL xs] : FlatL (.bool b :: xs):=.cons rfl (by simp) g
instance [g : FlatL xs] : FlatL (.str t :: xs):=.cons rfl (by simp) g
instance [g : FlatL xs] : FlatL (.list rs :: xs):=.cons rfl (by simp) g
instance [g : FlatL xs] : FlatL (.iptr cs :: xs):=.cons rfl (by simp) g
instance [g : FlatL xs] : FlatL (.imap es :: xs):=.cons rfl (by simp) g
instance {z : Nat} {rs : List (List PV)} [g : FlatL xs] : FlatL (.clip z rs :: xs):=.cons rfl (by simp) g
instance [g : FlatL xs] : FlatL (.nilsl :: xs):=.cons rfl (by simp) g
variable [g : FlatL xs] {ρ : List Nat} {m : Nat} {s : Store}
@[simp] theorem flatL_ren : xs.map (renN ρ m) = xs:=map_id_of (fun v=>flat_ren) g.flat
@[simp] theorem flatL_deref : xs.map (deref s m) = xs:=map_id_of (fun v=>flat_deref) g.flat
@[simp] theorem flatL_refs : xs.flatMap (refsN m) = []:=by
 have : ∀ l : List PV,l.all flatV = true → l.flatMap (refsN m) = []:=by
  intro l;induction l with
  | nil=>intro _;rfl
  | cons a r ih=>
   intro h
   simp only [List.all_cons,Bool.and_eq_true] at h
   rw [List.flatMap_cons,flat_refs h.1,ih h.2];rfl
 exact this xs g.flat
theorem flatL_fn {f : Fn} {ys : List PV} [g' : FlatL ys] : Closed (.fn f xs ys):=closed_fn g.closed g'.closed
end
section
variable {C : WC} {f : Operand} {args : Array Operand} {d : Option Tmp} {fid : FuncId} {vs : List PV} {e : AE} {s : Store} {K : KS} {v : PV} {ops : List LOp}
theorem CL.clo [EnT C.P fid] (hc : CallOK C.P fid vs [] v []) (hk : O C .pl ops (updA e d v) s K) (hcl : ∀ a ∈ vs,Closed a:=by simp [closed_agg,closed_fn,flatL_fn]) : CL C f args d (some (fid,vs)) ops e s K:=.of (hc.frame hcl) hk
theorem CD.clo [EnT C.P fid] (hc : CallOK C.P fid vs [] v []) (hk : O C .dr ops (updA e d v) s K) (hcl : ∀ a ∈ vs,Closed a:=by simp [closed_agg,closed_fn,flatL_fn]) : CD C d (some (fid,vs)) ops e s K:=.of (hc.frame hcl) hk
theorem CM.clo [EnT C.P fid] {lo : Option LOp} {n : Nat} {t : Store} (hc : CallOK C.P fid vs [] v []) (hk : O C (.mx lo n t) ops (updA e d v) s K) (hcl : ∀ a ∈ vs,Closed a:=by simp [closed_agg,closed_fn,flatL_fn]) : CM C lo n t d (some (fid,vs)) ops e s K:=.of (fun s=>hc.frame hcl) hk
end
section
variable {C : WC} {f : Operand} {args : Array Operand} {d : Option Tmp} {fid : FuncId} {vs vs' : List PV} {e : AE} {s : Store} {K : KS} {v : PV} {ops : List LOp}
theorem CL.see [EnT C.P fid] (hc : CallOK C.P fid vs' [] v []) (hvs : vs.map (deref s 6) = vs') (hv : Flat v) (hk : O C .pl ops (updA e d v) s K) : CL C f args d (some (fid,vs)) ops e s K:=.of (CallOK.borrow 6 (hvs ▸ hc) hv) hk
theorem CD.see [EnT C.P fid] (hc : CallOK C.P fid vs' [] v []) (hvs : vs.map (deref s 6) = vs') (hv : Flat v) (hk : O C .dr ops (updA e d v) s K) : CD C d (some (fid,vs)) ops e s K:=.of (CallOK.borrow 6 (hvs ▸ hc) hv) hk
theorem CM.see [EnT C.P fid] {lo : Option LOp} {n : Nat} {t : Store} (hc : CallOK C.P fid vs' [] v []) (hvs : ∀ t,vs.map (deref (s ++ t) 6) = vs') (hv : Flat v) (hk : O C (.mx lo n t) ops (updA e d v) s K) : CM C lo n t d (some (fid,vs)) ops e s K:=⟨fid,vs,v,rfl,EnT.h,fun t=>CallOK.borrow 6 (hvs t ▸ hc) hv,hk⟩
end
def soft1 : PV → PV
 | .nilsl=>.list []
 | v=>v
def soft2 : PV → PV
 | .nilsl=>.list []
 | .agg cs=>.agg (cs.map soft1)
 | v=>v
def softV : PV → PV
 | .nilsl=>.list []
 | .agg cs=>.agg (cs.map soft1)
 | .tuple vs=>.tuple (vs.map soft2)
 | v=>v
theorem soft1_soft (v : PV) : Soft (soft1 v) v:=by cases v <;> first | exact .nil | exact .refl
theorem softL_of {g : PV → PV} (h : ∀ v,Soft (g v) v) : ∀ l : List PV,SoftL (l.map g) l
 | []=>.nil
 | a :: r=>.cons (h a) (softL_of h r)
theorem soft2_soft (v : PV) : Soft (soft2 v) v:=by
 cases v <;> first | exact .nil | exact .refl | exact .agg (softL_of soft1_soft _)
theorem softV_soft (v : PV) : Soft (softV v) v:=by
 cases v <;> first | exact .nil | exact .refl | exact .agg (softL_of soft1_soft _) | exact .tuple (softL_of soft2_soft _)
theorem RetView.softV {v v' : PV} {s : Store} (h : Pv.softV (deref s 6 v) = v') : RetView 0 v s v' []:=by
 intro C pub σ w cv hm hs hr
 obtain ⟨p,t,h1,h2⟩:=RetView.freeze (s:=s) 6 v C pub σ w cv hm hs hr
 exact ⟨p,t,h1,h ▸ (softV_soft _).rel h2⟩
section
variable {k : IntKind} {i : Int} {b : Bool} {t : ByteArray} {xs : List (List PV)} {cs : List PV} {es : List (PV × PV)} {f : Fn} {T : TypeId} {v : PV}
@[simp] theorem soft1_int : soft1 (.int k i) = .int k i:=rfl
@[simp] theorem soft1_bool : soft1 (.bool b) = .bool b:=rfl
@[simp] theorem soft1_str : soft1 (.str t) = .str t:=rfl
@[simp] theorem soft1_nil : soft1 .nilsl = .list []:=rfl
@[simp] theorem soft1_list : soft1 (.list xs) = .list xs:=rfl
@[simp] theorem soft1_iptr : soft1 (.iptr cs) = .iptr cs:=rfl
@[simp] theorem soft1_imap : soft1 (.imap es) = .imap es:=rfl
@[simp] theorem soft1_clip {z : Nat} : soft1 (.clip z xs) = .clip z xs:=rfl
@[simp] theorem soft2_int : soft2 (.int k i) = .int k i:=rfl
@[simp] theorem soft2_bool : soft2 (.bool b) = .bool b:=rfl
@[simp] theorem soft2_str : soft2 (.str t) = .str t:=rfl
@[simp] theorem soft2_nil : soft2 .nilsl = .list []:=rfl
@[simp] theorem soft2_list : soft2 (.list xs) = .list xs:=rfl
@[simp] theorem soft2_agg : soft2 (.agg cs) = .agg (cs.map soft1):=rfl
@[simp] theorem softV_int : softV (.int k i) = .int k i:=rfl
@[simp] theorem softV_bool : softV (.bool b) = .bool b:=rfl
@[simp] theorem softV_str : softV (.str t) = .str t:=rfl
@[simp] theorem softV_nil : softV .nilsl = .list []:=rfl
@[simp] theorem softV_list : softV (.list xs) = .list xs:=rfl
@[simp] theorem softV_iptr : softV (.iptr cs) = .iptr cs:=rfl
@[simp] theorem softV_agg : softV (.agg cs) = .agg (cs.map soft1):=rfl
@[simp] theorem softV_tuple : softV (.tuple cs) = .tuple (cs.map soft2):=rfl
end
theorem RetView.norm {m : Nat} {v : PV} {s s' : Store} (ρ : List Nat) (hm : ∀ i,i < m → ρ[i]? = some i) (hnd : ρ.Nodup) (hlen : s'.length = ρ.length) (hobj : ∀ (i : Nat) (o' : PObj),s'[i]? = some o' → ∃ j o,ρ[i]? = some j ∧ s[j]? = some o ∧ RenObj ρ o' o) :
  RetView m v s (renN ρ 4 v) s':=by
 intro C pub σ w cv hC hs hr
 have her : ER pub σ ⟨1,[],[]⟩ (envOf [(0,v)]) { tmps:=#[cv],defers:=[] }:=by
  refine ⟨rfl,rfl,fun _ _ h=>(by cases h),fun t=>?_⟩
  by_cases ht : t = 0
  ·subst ht;simpa [envOf] using hr
  ·have : envOf [(0,v)] t = .any := by simp [envOf,ht]
   rw [this];exact .any
 obtain ⟨p,q,h1,h2⟩:=View.norm (m:=m) (e:=envOf [(0,v)]) (s:=s) ρ hm hnd hlen hobj [(0,renN ρ 4 v)] (by
  intro x hx;simp at hx;subst hx;simp only [envOf,if_true];exact renN_ren ρ 4 v) C pub σ _ w ⟨1,[],[]⟩ hC hs her
 exact ⟨p,q,h1,by simpa [envOf] using h2.rel 0⟩
def RG (ρ : List Nat) (v1 : PV) (s1 : Store) (v : PV) (s' : Store) : Prop:=renN ρ 4 v1 = v ∧ liveS ρ s1 ρ = s'
@[simp] theorem RG_nil {v1 v : PV} {s1 s' : Store} : RG [] v1 s1 v s' = (renN [] 4 v1 = v ∧ [] = s'):=rfl
@[simp] theorem RG_cons {i : Nat} {ρ : List Nat} {v1 v : PV} {s1 s' : Store} : RG (i :: ρ) v1 s1 v s' = (renN (i :: ρ) 4 v1 = v ∧ liveS (i :: ρ) s1 (i :: ρ) = s'):=rfl
def gcFin (m : Nat) (v : PV) (s' : Store) (v1 : PV) (s1 : Store) : Prop:=m ≤ s1.length ∧ RG (grow s1 64 (mrefs s1 m ++ refsN 4 v1) (List.range m)) v1 s1 v s'
@[simp] theorem gcFin_eq {m : Nat} {v v1 : PV} {s1 s' : Store} : gcFin m v s' v1 s1 = (m ≤ s1.length ∧ RG (grow s1 64 (mrefs s1 m ++ refsN 4 v1) (List.range m)) v1 s1 v s'):=rfl
theorem gcFin_ret {m : Nat} {v v1 : PV} {s1 s' : Store} (h : gcFin m v s' v1 s1) : RetView m v1 s1 v s':=by
 obtain ⟨hm,h1,h2⟩:=h
 obtain ⟨g1,g2,g3⟩:=grow_inv s1 64 (mrefs s1 m ++ refsN 4 v1) (List.range m) (List.nodup_range) (fun i hi=>by simp at hi;omega)
 have hl : ∀ (ρ L : List Nat),liveS ρ s1 L = L.map fun i=>renObj ρ ((s1[i]?).getD .dead):=by
  intro ρ L;induction L with
  | nil=>rfl
  | cons t r ih=>rw [List.map_cons,← ih];rfl
 subst h1 h2
 refine RetView.norm _ ?_ g1 (by rw [hl];simp) ?_
 ·intro i hi
  obtain ⟨t,ht⟩:=g3
  rw [← ht,List.getElem?_append_left (by simpa using hi)];simp [hi]
 ·intro i o' hi
  rw [hl,List.getElem?_map,Option.map_eq_some_iff] at hi
  obtain ⟨j,hj,rfl⟩:=hi
  have hjl:=g2 j (List.mem_of_getElem? hj)
  refine ⟨j,s1[j],hj,List.getElem?_eq_getElem hjl,?_⟩
  rw [List.getElem?_eq_getElem hjl];exact renObj_ren _ _
def chkB (fn : Func) (A : Ann) : Bool:=match fn.body with
 | some c=>chkC fn.ntmps A c
 | none=>false
structure FI (P : Program) (F : FuncId) (C : Program → Nat → WC) (x : XC) (rs : List ResultVar) (fn : Func) : Prop where
 A : ∃ A,(∀ P m,C P m = ⟨P,m,A⟩) ∧ chkB fn A = true
 f : P.funcs[F]? = some fn
 x : fn.body.map lt = some x
 r : fn.results.toList = rs
 m : P.follows .mixedOrders = true
theorem fiOf {P : Program} {F : FuncId} {C : Program → Nat → WC} {x : XC} {rs : List ResultVar} {fn : Func} {A : Ann} (h : ∀ P m,C P m = ⟨P,m,A⟩) (hc : chkB fn A = true) (hf : P.funcs[F]? = some fn) (hx : fn.body.map lt = some x) (hr : fn.results.toList = rs) (hm : P.follows .mixedOrders = true) : FI P F C x rs fn:=⟨⟨A,h,hc⟩,hf,hx,hr,hm⟩
def cxA (A : Ann) (P : Program) (m : Nat) : WC:=⟨P,m,A⟩
@[simp] theorem cxA_a {A : Ann} {P : Program} {m : Nat} : (cxA A P m).P = P ∧ (cxA A P m).m = m ∧ (cxA A P m).A = A:=⟨rfl,rfl,rfl⟩
instance {A : Ann} {P : Program} {m f : Nat} [h : EnT P f] : EnT (cxA A P m).P f:=h
theorem fiA {P : Program} {F : FuncId} {x : XC} {rs : List ResultVar} {fn : Func} {A : Ann} (hf : P.funcs[F]? = some fn) (hm : P.follows .mixedOrders = true) (hc : chkB fn A = true:=by decide +kernel) (hx : fn.body.map lt = some x:=by kernel_rfl) (hr : fn.results.toList = rs:=by kernel_rfl) : FI P F (cxA A) x rs fn:=fiOf (fun _ _=>rfl) hc hf hx hr hm
section
variable {P : Program} {F : FuncId} {C : Program → Nat → WC} {x : XC} {rs : List ResultVar} {fn : Func} (i : FI P F C x rs fn) {args : List PV} {v : PV} {s s' : Store}
include i
theorem FI.ops (fin : PV → Store → Prop) (hfin : ∀ v1 s1,fin v1 s1 → RetView s.length v1 s1 v s') (h : X (C P s.length) x (argsA 0 args) s (.fin rs fin)) (hl : Nat.ble args.length fn.ntmps = true:=by exact rfl) : CallOK P F args s v s':=by
 obtain ⟨⟨A,hA,hc⟩,hf,hx,hr,hm⟩:=i
 cases hb : fn.body with
 | none=>rw [hb] at hx;cases hx
 | some c=>
  rw [hb] at hx
  unfold chkB at hc
  rw [hb] at hc
  refine callXS (m:=0) (C P s.length) x ?_ ?_ (Option.some.inj hx) hf hb rfl (Nat.le_of_ble_eq_true hl) hm ?_ fin hfin (by rw [hr];exact h)
  ·rw [hA]
  ·rw [hA]
  ·rw [hA];exact hc
theorem FI.op (h : X (C P 0) x (argsA 0 args) [] (.fin rs fun v1 s1=>deref s1 6 v1 = v)) (hl : Nat.ble args.length fn.ntmps = true:=by exact rfl) : CallOK P F args [] v []:=by
 obtain ⟨⟨A,hA,hc⟩,hf,hx,hr,hm⟩:=i
 cases hb : fn.body with
 | none=>rw [hb] at hx;cases hx
 | some c=>
  rw [hb] at hx
  unfold chkB at hc
  rw [hb] at hc
  refine callX (m:=0) (C P 0) x ?_ ?_ (Option.some.inj hx) hf hb rfl (Nat.le_of_ble_eq_true hl) hm ?_ (by rw [hr];exact h)
  ·rw [hA]
  ·rw [hA]
  ·rw [hA];exact hc
theorem FI.os (h : X (C P 0) x (argsA 0 args) [] (.fin rs fun v1 s1=>softV (deref s1 6 v1) = v)) (hl : Nat.ble args.length fn.ntmps = true:=by exact rfl) : CallOK P F args [] v []:=
 FI.ops i _ (fun v1 s1 h=>RetView.softV h) h hl
theorem FI.og (h : X (C P s.length) x (argsA 0 args) s (.fin rs (gcFin s.length v s'))) (hl : Nat.ble args.length fn.ntmps = true:=by exact rfl) : CallOK P F args s v s':=
 FI.ops i _ (fun v1 s1 h=>gcFin_ret h) h hl
end
def frzV (F : List Nat) (s : Store) (v : PV) : PV:=if (refsN 4 v).any (fun r=>decide (r.1 ∈ F)) = true then deref (only F 0 s) 6 v else v
def frzO (F : List Nat) (s : Store) (i : Nat) (o : PObj) : PObj:=if i ∈ F then .dead else match o with
 | .rows z rs=>.rows z (rs.map (List.map (frzV F s)))
 | .map es=>.map (es.map fun p=>(p.1,frzV F s p.2))
 | o=>o
theorem frzV_flat {F : List Nat} {s : Store} {v : PV} (h : flatV v = true) : frzV F s v = v:=by unfold frzV;rw [flat_refs h];simp
@[simp] theorem frzO_rows {F : List Nat} {s : Store} {i z : Nat} {rs : List (List PV)} : frzO F s i (.rows z rs) = if i ∈ F then .dead else .rows z (rs.map (List.map (frzV F s))):=rfl
@[simp] theorem frzO_map {F : List Nat} {s : Store} {i : Nat} {es : List (PV × PV)} : frzO F s i (.map es) = if i ∈ F then .dead else .map (es.map fun p=>(p.1,frzV F s p.2)):=rfl
@[simp] theorem frzO_dead {F : List Nat} {s : Store} {i : Nat} : frzO F s i .dead = .dead:=by unfold frzO;simp
section
variable {F : List Nat} {s : Store}
@[simp] theorem frzV_int {k : IntKind} {n : Int} : frzV F s (.int k n) = .int k n:=frzV_flat rfl
@[simp] theorem frzV_bool {b : Bool} : frzV F s (.bool b) = .bool b:=frzV_flat rfl
@[simp] theorem frzV_str {b : ByteArray} : frzV F s (.str b) = .str b:=frzV_flat rfl
@[simp] theorem frzV_list {l : List (List PV)} : frzV F s (.list l) = .list l:=frzV_flat rfl
@[simp] theorem frzV_iptr {l : List PV} : frzV F s (.iptr l) = .iptr l:=frzV_flat rfl
@[simp] theorem frzV_imap {l : List (PV × PV)} : frzV F s (.imap l) = .imap l:=frzV_flat rfl
@[simp] theorem frzV_clip {z : Nat} {l : List (List PV)} : frzV F s (.clip z l) = .clip z l:=frzV_flat rfl
@[simp] theorem frzV_any : frzV F s .any = .any:=frzV_flat rfl
@[simp] theorem frzV_nilsl : frzV F s .nilsl = .nilsl:=frzV_flat rfl
@[simp] theorem frzV_nilptr : frzV F s .nilptr = .nilptr:=frzV_flat rfl
@[simp] theorem frzV_sl {i o n : Nat} : frzV F s (.sl i o n) = if i ∈ F then deref (only F 0 s) 6 (.sl i o n) else .sl i o n:=by unfold frzV;simp
@[simp] theorem frzV_ptr {i o n : Nat} : frzV F s (.ptr i o n) = if i ∈ F then deref (only F 0 s) 6 (.ptr i o n) else .ptr i o n:=by unfold frzV;simp
@[simp] theorem frzV_mapv {i : Nat} : frzV F s (.mapv i) = if i ∈ F then deref (only F 0 s) 6 (.mapv i) else .mapv i:=by unfold frzV;simp
@[simp] theorem frzV_agg {xs : List PV} : frzV F s (.agg xs) = if (refsN 4 (.agg xs)).any (fun r=>decide (r.1 ∈ F)) = true then deref (only F 0 s) 6 (.agg xs) else .agg xs:=rfl
@[simp] theorem frzV_tuple {xs : List PV} : frzV F s (.tuple xs) = if (refsN 4 (.tuple xs)).any (fun r=>decide (r.1 ∈ F)) = true then deref (only F 0 s) 6 (.tuple xs) else .tuple xs:=rfl
@[simp] theorem frzV_fn {f : Fn} {xs ys : List PV} : frzV F s (.fn f xs ys) = if (refsN 4 (.fn f xs ys)).any (fun r=>decide (r.1 ∈ F)) = true then deref (only F 0 s) 6 (.fn f xs ys) else .fn f xs ys:=rfl
@[simp] theorem comp_frz {α : Type} {g : α → List PV} [FlatRow g] : List.map (frzV F s) ∘ g = g:=by
 funext x;exact map_id_of (fun v=>frzV_flat) (FlatRow.flat x)
end
@[simp] theorem filter_nf {i : Nat} {r : List (Nat × Bool)} : List.filter (fun r : Nat × Bool=>!r.snd) ((i,false) :: r) = (i,false) :: List.filter (fun r=>!r.snd) r:=rfl
@[simp] theorem filter_nt {i : Nat} {r : List (Nat × Bool)} : List.filter (fun r : Nat × Bool=>!r.snd) ((i,true) :: r) = List.filter (fun r=>!r.snd) r:=rfl
@[simp] theorem withFrz_env {F : List Nat} {e : AE} {s : Store} : (withFrz F e s).1 = e.map fun p=>(p.1,frzV F s p.2):=rfl
@[simp] theorem withFrz_store {F : List Nat} {e : AE} {s : Store} : (withFrz F e s).2 = s.mapIdx (frzO F s):=rfl
theorem flat_up {ρ : List Nat} {n : Nat} {v : PV} (h : flatV v = true) : upN ρ n v = v:=by
 cases v <;> first | (cases h;done) | simp
@[simp] theorem comp_up {α : Type} {g : α → List PV} [FlatRow g] {ρ : List Nat} {n : Nat} : List.map (upN ρ n) ∘ g = g:=by
 funext x;exact map_id_of (fun v=>flat_up) (FlatRow.flat x)
theorem CL.giv {C : WC} {f : Operand} {args : Array Operand} {d : Option Tmp} {e : AE} {s : Store} {K : KS} {ops : List LOp} (F : List Nat) {r : Option (FuncId × List PV)}
  (h : CL C f args d (fnArgs f args (envOf (e.map fun p=>(p.1,frzV F s p.2)))) ops (e.map fun p=>(p.1,frzV F s p.2)) (s.mapIdx (frzO F s)) K) : CL C f args d r ops e s K:=CL.give F h
theorem CT.clo {C : WC} {d : Option Tmp} {fid : FuncId} {vs : List PV} {e : AE} {s : Store} {K : KS} {v : PV} {t : RT} [EnT C.P fid] (hc : CallOK C.P fid vs [] v []) (hk : TR C t (updA e d v) s K) (hcl : ∀ a ∈ vs,Closed a:=by simp [closed_agg,closed_fn,flatL_fn]) : CT C d (some (fid,vs)) t e s K:=⟨fid,vs,rfl,EnT.h,.inl ⟨v,s,hc.frame hcl,hk⟩⟩
theorem CT.see {C : WC} {d : Option Tmp} {fid : FuncId} {vs vs' : List PV} {e : AE} {s : Store} {K : KS} {v : PV} {t : RT} [EnT C.P fid] (hc : CallOK C.P fid vs' [] v []) (hvs : vs.map (deref s 6) = vs') (hv : Flat v) (hk : TR C t (updA e d v) s K) : CT C d (some (fid,vs)) t e s K:=⟨fid,vs,rfl,EnT.h,.inl ⟨v,s,CallOK.borrow 6 (hvs ▸ hc) hv,hk⟩⟩
structure Sg (p : Prop) : Prop where
 h : p
instance {p : Prop} : Spl (Sg p) ((True → p) ∧ (True → True)):=⟨fun h=>⟨h.1 trivial⟩⟩
theorem brA {a b : Prop} (x : b) (h : a:=by first | omega | (simp <;> omega)) : a ∧ b:=⟨h,x⟩
theorem brE {p : Prop} {q : p → Prop} (x : ∀ h,q h) (h : p:=by first | omega | (simp <;> omega)) : ∃ h,q h:=⟨h,x h⟩
class Clo (G : Prop) (P : outParam Program) (fid : outParam FuncId) (vs : outParam (List PV)) (R : outParam (PV → Prop)) : Prop where
 h : ∀ {v : PV},CallOK P fid vs [] v [] → (∀ a ∈ vs,Closed a) → R v → G
section
variable {C : WC} {f : Operand} {args : Array Operand} {d : Option Tmp} {fid : FuncId} {vs : List PV} {e : AE} {s : Store} {K : KS} {ops : List LOp}
instance [EnT C.P fid] : Clo (CL C f args d (some (fid,vs)) ops e s K) C.P fid vs (fun v=>O C .pl ops (updA e d v) s K):=⟨fun a b c=>CL.clo a c b⟩
instance [EnT C.P fid] {lo : Option LOp} {n : Nat} {t : Store} : Clo (CM C lo n t d (some (fid,vs)) ops e s K) C.P fid vs (fun v=>O C (.mx lo n t) ops (updA e d v) s K):=⟨fun a b c=>CM.clo a c b⟩
instance [EnT C.P fid] : Clo (CD C d (some (fid,vs)) ops e s K) C.P fid vs (fun v=>O C .dr ops (updA e d v) s K):=⟨fun a b c=>CD.clo a c b⟩
instance [EnT C.P fid] {t : RT} : Clo (CT C d (some (fid,vs)) t e s K) C.P fid vs (fun v=>TR C t (updA e d v) s K):=⟨fun a b c=>CT.clo a c b⟩
end
theorem clo {G : Prop} {P : Program} {fid : FuncId} {vs : List PV} {R : PV → Prop} {v : PV} [i : Clo G P fid vs R] (hc : CallOK P fid vs [] v []) (hk : R v) (hcl : ∀ a ∈ vs,Closed a:=by simp [closed_agg,closed_fn,flatL_fn]) : G:=i.h hc hcl hk
end Go.Pv
