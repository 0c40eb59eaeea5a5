import Derived.Test.YtfhakdonenhnbaaCPvMix
import Derived.IntWalk
set_option linter.unusedVariables false
set_option linter.unusedSimpArgs false
namespace Go.Pv
open Go Go.RowKit
def only (F : List Nat) : Nat → Store → Store
 | _,[]=>[]
 | i,o :: r=>(if i ∈ F then o else .dead) :: only F (i + 1) r
def less (F : List Nat) : Nat → Store → Store
 | _,[]=>[]
 | i,o :: r=>(if i ∈ F then .dead else o) :: less F (i + 1) r
theorem only_length (F : List Nat) (s : Store) : ∀ i,(only F i s).length = s.length:=by
 induction s with
 | nil=>intro i;rfl
 | cons o r ih=>intro i;simp [only,ih]
theorem less_length (F : List Nat) (s : Store) : ∀ i,(less F i s).length = s.length:=by
 induction s with
 | nil=>intro i;rfl
 | cons o r ih=>intro i;simp [less,ih]
theorem only_get (F : List Nat) (s : Store) : ∀ (i k : Nat) (o : PObj),(only F i s)[k]? = some o → o ≠ .dead → s[k]? = some o ∧ i + k ∈ F:=by
 induction s with
 | nil=>intro i k o h;simp [only] at h
 | cons a r ih=>
  intro i k o h hd
  cases k with
  | zero=>
   simp only [only,List.getElem?_cons_zero,Option.some.injEq] at h
   split at h
   ·subst h;exact ⟨rfl,by assumption⟩
   ·exact absurd h.symm hd
  | succ k=>
   have:=ih (i + 1) k o (by simpa [only] using h) hd
   exact ⟨by simpa using this.1,by have h2:=this.2;rw [show i + 1 + k = i + (k + 1) by omega] at h2;exact h2⟩
theorem less_get (F : List Nat) (s : Store) : ∀ (i k : Nat) (o : PObj),(less F i s)[k]? = some o → o ≠ .dead → s[k]? = some o ∧ i + k ∉ F:=by
 induction s with
 | nil=>intro i k o h;simp [less] at h
 | cons a r ih=>
  intro i k o h hd
  cases k with
  | zero=>
   simp only [less,List.getElem?_cons_zero,Option.some.injEq] at h
   split at h
   ·exact absurd h.symm hd
   ·subst h;exact ⟨rfl,by assumption⟩
  | succ k=>
   have:=ih (i + 1) k o (by simpa [less] using h) hd
   exact ⟨by simpa using this.1,by have h2:=this.2;rw [show i + 1 + k = i + (k + 1) by omega] at h2;exact h2⟩
section
variable {m : Nat} {e : Env} {s : Store}
theorem SR.sub {C : Ctx} {pub : PHeap} {σ : Sig} {s t : Store} {w : World} (hs : SR C pub σ s w) (hl : t.length = s.length) (ht : ∀ (k : Nat) (o : PObj),t[k]? = some o → o ≠ .dead → s[k]? = some o) : SR C pub σ t w:=by
 have hal : ∀ i l,Alive t σ i l → Alive s σ i l:=by
  rintro i l ⟨o,h1,h2,h3,h4⟩
  exact ⟨o,ht i o h1 h2,h2,h3,h4⟩
 exact {
  pubIn:=hs.pubIn
  obj:=fun i o hi=>by
   by_cases hd : o = .dead
   ·subst hd;trivial
   ·exact hs.obj i o (ht i o hi hd)
  inj:=fun i j li lj hi hj=>hs.inj i j li lj (hal _ _ hi) (hal _ _ hj)
  sig:=fun i hi=>hs.sig i (by omega)
  os:=hs.os,tape:=hs.tape,output:=hs.output,size:=hs.size
  frame:=hs.frame
  own:=fun i l hi=>hs.own i l (hal _ _ hi)
  ple:=hs.ple
  sle:=hs.sle }
def FrzEnv (F : List Nat) (n : Nat) (s : Store) (e : Env) : List (Nat × PV) → Prop
 | []=>True
 | (t,v) :: r=>(v = e t ∨ v = deref (only F 0 s) n (e t)) ∧ FrzEnv F n s e r
theorem View.freeze (F : List Nat) (n : Nat) (l : List (Nat × PV)) (he : FrzEnv F n s e l) : ViewL m e s l (less F 0 s):=by
 intro C pub σ a w N hC hs her
 have hso : SR C pub σ (only F 0 s) w:=hs.sub (only_length _ _ _) fun k o h hd=>(only_get F s 0 k o h hd).1
 have hsl : SR C pub σ (less F 0 s) w:=hs.sub (less_length _ _ _) fun k o h hd=>(less_get F s 0 k o h hd).1
 have hle:=opened_le hso
 have hno : ∀ i li,Alive (less F 0 s) σ i li → ¬ dom (only F 0 s) σ li.b:=by
  rintro i li ⟨o,h1,h2,h3,h4⟩ ⟨j,lj,⟨o',g1,g2,g3,g4⟩,hb⟩
  obtain ⟨h5,h6⟩:=less_get F s 0 i o h1 h2
  obtain ⟨g5,g6⟩:=only_get F s 0 j o' g1 g2
  have:=hs.inj i j li lj ⟨o,h5,h2,h3,h4⟩ ⟨o',g5,g2,g3,g4⟩ hb.symm
  subst this
  exact h6 g6
 refine ⟨opened pub σ (only F 0 s) w,σ,?_,her.size,her.defers,her.kept,fun t=>?_⟩
 ·exact {
   pubIn:=opened_in hso
   obj:=fun i o hi=>by
    have h0:=hsl.obj i o hi
    cases o with
    | dead=>trivial
    | rows z rs=>
     obtain ⟨li,h1,h2,h3,h4⟩:=h0
     refine ⟨li,h1,h2,h3,fun hn=>?_⟩
     obtain ⟨h5,cs,ty,h6,h7,h8⟩:=h4 hn
     refine ⟨?_,cs,ty,h6,h7,h8.wide,fun r row j v c a b d=>(h8.rel r row j v c a b d).mono hle Sig.le.rfl'⟩
     unfold opened
     rw [if_neg (hno i li ⟨_,hi,by simp,h1,hn⟩)];exact h5
    | iter t p=>
     obtain ⟨li,h1,h2,h3,h4,h5,h6⟩:=h0
     refine ⟨li,h1,?_,h3,h4,h5,h6⟩
     unfold opened
     rw [if_neg (hno i li ⟨_,hi,by simp,h1,by omega⟩)];exact h2
    | map es=>
     obtain ⟨li,h1,h2,h3,h4,h5,xs,clock,h6,h7,h8⟩:=h0
     refine ⟨li,h1,?_,h3,h4,h5,xs,clock,h6,h7,fun j k v e a b=>⟨(h8 j k v e a b).1.mono hle Sig.le.rfl',(h8 j k v e a b).2.mono hle Sig.le.rfl'⟩⟩
     unfold opened
     rw [if_neg (hno i li ⟨_,hi,by simp,h1,by omega⟩)];exact h2
   inj:=hsl.inj
   sig:=hsl.sig
   os:=hs.os,tape:=hs.tape,output:=hs.output,size:=hs.size
   frame:=fun b hb hd=>by
    have h1:=hs.frame b hb hd
    refine ⟨h1.1,?_⟩
    unfold opened
    rw [if_neg,h1.2]
    rintro ⟨i,l,hl,rfl⟩
    rcases hso.own i l hl with h2 | h2
    ·exact hd h2
    ·omega
   own:=hsl.own
   ple:=hs.ple.trans hle
   sle:=hs.sle }
 ·induction l with
  | nil=>exact .any
  | cons p r ih=>
   obtain ⟨t',v⟩:=p
   obtain ⟨h1,h2⟩:=he
   unfold envOf
   split
   ·rename_i htt
    subst htt
    rcases h1 with rfl | rfl
    ·exact (her.rel t).mono hle Sig.le.rfl'
    ·exact (deref_rel hso n _ _ (her.rel t)).mono PHeap.le.rfl' (noSig_le σ)
   ·exact ih h2
end
mutual
inductive Soft : PV → PV → Prop
 | refl {v} : Soft v v
 | nil : Soft (.list []) .nilsl
 | list {xs ys} (h : SoftR xs ys) : Soft (.list xs) (.list ys)
 | iptr {xs ys} (h : SoftL xs ys) : Soft (.iptr xs) (.iptr ys)
 | agg {xs ys} (h : SoftL xs ys) : Soft (.agg xs) (.agg ys)
 | tuple {xs ys} (h : SoftL xs ys) : Soft (.tuple xs) (.tuple ys)
inductive SoftL : List PV → List PV → Prop
 | nil : SoftL [] []
 | cons {x y xs ys} (h : Soft x y) (g : SoftL xs ys) : SoftL (x :: xs) (y :: ys)
inductive SoftR : List (List PV) → List (List PV) → Prop
 | nil : SoftR [] []
 | cons {x y xs ys} (h : SoftL x y) (g : SoftR xs ys) : SoftR (x :: xs) (y :: ys)
end
mutual
theorem Soft.rel {pub : PHeap} : ∀ {v u : PV},Soft v u → ∀ {σ : Sig} {c : Value},Rel pub σ u c → Rel pub σ v c
 | _,_,.refl,_,_,h=>h
 | _,_,.nil,_,_,h=>by cases h;exact .list0 (Nat.zero_le _)
 | _,_,.list (xs:=xs) (ys:=ys) g,σ,c,h=>by
  have hg:=g.get (pub:=pub)
  cases h with
  | list0 hc=>have : xs = []:=List.length_eq_zero_iff.1 hg.1;subst this;exact .list0 hc
  | list hb hlen hcap hw hsz hr=>
   rename_i b o cs ty fr esz cap
   have key : Rel pub σ (.list xs) (.slice (some ⟨b,o,none⟩) xs.length cap):=by
    refine .list (esz:=esz) hb (by omega) hcap ?_ (by rw [hg.1];exact hsz) ?_
    ·intro r row hrow
     have hlt:=lt_of_getElem? hrow
     have hy : ys[r]? = some (ys[r]'(by omega)):=List.getElem?_eq_getElem _
     rw [(hg.2 r row _ hrow hy).1];exact hw r _ hy
    ·intro r row j v c hrow hj hc
     have hlt:=lt_of_getElem? hrow
     have hy : ys[r]? = some (ys[r]'(by omega)):=List.getElem?_eq_getElem _
     have h2:=hg.2 r row _ hrow hy
     have hjl:=lt_of_getElem? hj
     have hyj : (ys[r]'(by omega))[j]? = some ((ys[r]'(by omega))[j]'(by omega)):=List.getElem?_eq_getElem _
     exact h2.2 j v _ hj hyj noSig c (hr r _ j _ c hy hyj hc)
   rw [hg.1] at key;exact key
 | _,_,.iptr (xs:=xs) (ys:=ys) g,σ,c,h=>by
  have hg:=g.get (pub:=pub)
  cases h with
  | iptr hb hsz hr=>
   refine .iptr hb (by omega) fun j v c hj hc=>?_
   have hjl:=lt_of_getElem? hj
   have hyj : ys[j]? = some (ys[j]'(by omega)):=List.getElem?_eq_getElem _
   exact hg.2 j v _ hj hyj noSig c (hr j _ c hyj hc)
 | _,_,.agg (xs:=xs) (ys:=ys) g,σ,c,h=>by
  have hg:=g.get (pub:=pub)
  cases h with
  | agg hsz hr=>
   refine .agg (by omega) fun j v c hj hc=>?_
   have hjl:=lt_of_getElem? hj
   have hyj : ys[j]? = some (ys[j]'(by omega)):=List.getElem?_eq_getElem _
   exact hg.2 j v _ hj hyj σ c (hr j _ c hyj hc)
 | _,_,.tuple (xs:=xs) (ys:=ys) g,σ,c,h=>by
  have hg:=g.get (pub:=pub)
  cases h with
  | tuple hsz hr=>
   refine .tuple (by omega) fun j v c hj hc=>?_
   have hjl:=lt_of_getElem? hj
   have hyj : ys[j]? = some (ys[j]'(by omega)):=List.getElem?_eq_getElem _
   exact hg.2 j v _ hj hyj σ c (hr j _ c hyj hc)
theorem SoftL.get {pub : PHeap} : ∀ {xs ys : List PV},SoftL xs ys → xs.length = ys.length ∧ ∀ (j : Nat) (v u : PV),xs[j]? = some v → ys[j]? = some u → ∀ (σ : Sig) (c : Value),Rel pub σ u c → Rel pub σ v c
 | _,_,.nil=>⟨rfl,fun j v u h=>by simp at h⟩
 | _,_,.cons h g => ⟨by simp [(g.get (pub := pub)).1],fun j v u hv hu σ c hr => by
   cases j with
   | zero=>simp at hv hu;subst hv hu;exact h.rel hr
   | succ j=>exact (g.get (pub:=pub)).2 j v u (by simpa using hv) (by simpa using hu) σ c hr⟩
theorem SoftR.get {pub : PHeap} : ∀ {xs ys : List (List PV)},SoftR xs ys → xs.length = ys.length ∧ ∀ (r : Nat) (row row' : List PV),xs[r]? = some row → ys[r]? = some row' → row.length = row'.length ∧ ∀ (j : Nat) (v u : PV),row[j]? = some v → row'[j]? = some u → ∀ (σ : Sig) (c : Value),Rel pub σ u c → Rel pub σ v c
 | _,_,.nil=>⟨rfl,fun j v u h=>by simp at h⟩
 | _,_,.cons h g => ⟨by simp [(g.get (pub := pub)).1],fun r row row' hv hu => by
   cases r with
   | zero=>simp at hv hu;subst hv hu;exact h.get
   | succ r=>exact (g.get (pub:=pub)).2 r row row' (by simpa using hv) (by simpa using hu)⟩
end
section
variable {P : Program} {m : Nat} {e : Env} {s : Store}
end
end Go.Pv
namespace Go.Pv
open Go
inductive Fm where
 | mk (kind : Int) (name : ByteArray) (kids : List Fm)
 deriving Inhabited
def Fm.kind : Fm → Int | .mk k _ _=>k
def Fm.name : Fm → ByteArray | .mk _ n _=>n
def Fm.kids : Fm → List Fm | .mk _ _ l=>l
def strRow (t : ByteArray) : List PV:=[.str t]
def boolRow (b : Bool) : List PV:=[.bool b]
def intRow (n : Int) : List PV:=[.int .i64 n]
theorem range_get {n i : Nat} (h : i < n) : (List.range n)[i]? = some i:=by simp [h]
theorem View.pre {m : Nat} {e : Env} {s s' : Store} (l : List (Nat × PV)) (hm : m ≤ s'.length) (hpre : s' <+: s) (hself : ∀ o ∈ s',RenObjD (List.range s'.length) o o) (he : RenEnv (List.range s'.length) e l) : ViewL m e s l s':=by
 refine .norm (List.range s'.length) (fun i hi=>range_get (by omega)) List.nodup_range (by simp) (fun i o' hi=>?_) l (RenEnv.get l he)
 have hlt:=lt_of_getElem? hi
 obtain ⟨t,rfl⟩:=hpre
 exact ⟨i,o',range_get hlt,by rw [List.getElem?_append_left hlt];exact hi,(hself o' (List.mem_of_getElem? hi)).ren⟩
theorem hnb : (∀ (b : Bool),((!b) = false) = (b = true)) ∧ (∀ (b : Bool),(!!b) = b) ∧ (∀ {p : Prop} [Decidable p],¬¬p ↔ p) ∧ ((!true) = false) ∧ ((!false) = true) ∧ (∀ {a b : Int},¬a < b ↔ b ≤ a) ∧ (∀ {a b : Int},¬a ≤ b ↔ b < a) ∧ ((¬True) = False) ∧ ((¬False) = True):=⟨@Bool.not_eq_false',@Bool.not_not,@Decidable.not_not,@Bool.not_true,@Bool.not_false,@Int.not_lt,@Int.not_le,@not_true_eq_false,@not_false_eq_true⟩
theorem hnc : (∀ (a b : Bool),((a || b) = true) = (a = true ∨ b = true)) ∧ (∀ (a b : Bool),((a && b) = true) = (a = true ∧ b = true)) ∧ (∀ {x y : Bool},(x || y) = false ↔ x = false ∧ y = false):=⟨@Bool.or_eq_true,@Bool.and_eq_true,@Bool.or_eq_false_iff⟩
class EnT (P : Program) (f : FuncId) : Prop where
 h : Enters P f
class TyT (P : Program) (T : TypeId) (ti : outParam TI) : Prop where
 h : tinfo P T = some ti
class ZoT (P : Program) (T : TypeId) (z : outParam (Option (List PV))) : Prop where
 h : zeroOf P T = z
theorem tyI {P : Program} {T : TypeId} {ti : TI} [i : TyT P T ti] : tinfo P T = some ti:=i.h
theorem zoI {P : Program} {T : TypeId} {z : Option (List PV)} [i : ZoT P T z] : zeroOf P T = z:=i.h
class ZvT (P : Program) (T : TypeId) (z : outParam PV) : Prop where
 h : zvOf P T = some z
theorem zvI {P : Program} {T : TypeId} {z : PV} [i : ZvT P T z] : zvOf P T = some z:=i.h
end Go.Pv
namespace Go.Pv
open Go Go.RowKit
def FrzC (G : Store) (n : Nat) (v v2 : PV) : Prop:=Soft v2 v ∨ Soft v2 (deref G n v)
theorem FrzC.same {G : Store} {n : Nat} {v : PV} : FrzC G n v v:=.inl .refl
theorem FrzC.deref {G : Store} {n : Nat} {v v2 : PV} (h : deref G n v = v2) : FrzC G n v v2:=.inr (h ▸ .refl)
def FrzObj (G : Store) (n : Nat) : PObj → PObj → Prop
 | _,.dead=>True
 | .rows z rs,.rows z' rs2=>z = z' ∧ rs2.length = rs.length ∧ ∀ (r : Nat) (row row2 : List PV),rs[r]? = some row → rs2[r]? = some row2 → row2.length = row.length ∧ ∀ (j : Nat) (v v2 : PV),row[j]? = some v → row2[j]? = some v2 → FrzC G n v v2
 | .iter t p,.iter t' p'=>t = t' ∧ p = p'
 | .map es,.map es2=>es2.length = es.length ∧ ∀ (j : Nat) (p p2 : PV × PV),es[j]? = some p → es2[j]? = some p2 → FrzC G n p.1 p2.1 ∧ FrzC G n p.2 p2.2
 | _,_=>False
theorem FrzObj.same {G : Store} {n : Nat} {o : PObj} : FrzObj G n o o:=by
 cases o with
 | dead=>trivial
 | rows z rs=>exact ⟨rfl,rfl,fun r row row2 h h2=>by rw [h] at h2;cases h2;exact ⟨rfl,fun j v v2 h h2=>by rw [h] at h2;cases h2;exact .same⟩⟩
 | iter t p=>exact ⟨rfl,rfl⟩
 | map es=>exact ⟨rfl,fun j p p2 h h2=>by rw [h] at h2;cases h2;exact ⟨.same,.same⟩⟩
section
variable {m : Nat} {e : Env} {s : Store}
theorem give_core (F : List Nat) (n : Nat) (s2 : Store) (hl : s2.length = s.length)
  (ho : ∀ (k : Nat) (o2 : PObj),s2[k]? = some o2 → o2 ≠ .dead → k ∉ F ∧ ∃ o,s[k]? = some o ∧ FrzObj (only F 0 s) n o o2) {C : Ctx} {pub : PHeap} {σ : Sig} {w : World} (hs : SR C pub σ s w) :
  SR C (opened pub σ (only F 0 s) w) σ s2 w ∧ ∀ v v2 c,FrzC (only F 0 s) n v v2 → Rel pub σ v c → Rel (opened pub σ (only F 0 s) w) σ v2 c:=by
 have hso : SR C pub σ (only F 0 s) w:=hs.sub (only_length _ _ _) fun k o h hd=>(only_get F s 0 k o h hd).1
 have hle:=opened_le hso
 have hcell : ∀ v v2 c,FrzC (only F 0 s) n v v2 → Rel pub σ v c → Rel (opened pub σ (only F 0 s) w) σ v2 c:=by
  intro v v2 c h hr
  rcases h with h | h
  ·exact h.rel (hr.mono hle Sig.le.rfl')
  ·exact h.rel ((deref_rel hso n v c hr).mono PHeap.le.rfl' (noSig_le σ))
 have hal : ∀ i li,Alive s2 σ i li → i ∉ F ∧ Alive s σ i li:=by
  rintro i li ⟨o2,h1,h2,h3,h4⟩
  obtain ⟨h5,o,h6,h7⟩:=ho i o2 h1 h2
  refine ⟨h5,o,h6,?_,h3,h4⟩
  rintro rfl
  cases o2 <;> first | exact h2 rfl | exact h7
 have hno : ∀ i li,Alive s2 σ i li → ¬ dom (only F 0 s) σ li.b:=by
  rintro i li hi ⟨j,lj,⟨o',g1,g2,g3,g4⟩,hb⟩
  obtain ⟨h5,h6⟩:=hal i li hi
  obtain ⟨g5,g6⟩:=only_get F s 0 j o' g1 g2
  have:=hs.inj i j li lj h6 ⟨o',g5,g2,g3,g4⟩ hb.symm
  subst this
  rw [Nat.zero_add] at g6
  exact h5 g6
 refine ⟨?_,hcell⟩
 ·exact {
   pubIn:=opened_in hso
   obj:=fun i o2 hi=>by
    by_cases hd : o2 = .dead
    ·subst hd;trivial
    ·obtain ⟨_,o,h1,h2⟩ := ho i o2 hi hd
     have h0:=hs.obj i o h1
     cases o with
     | dead=>cases o2 <;> first | exact absurd rfl hd | exact h2.elim
     | rows z rs=>
      cases o2 with
      | dead=>exact absurd rfl hd
      | iter=>exact h2.elim
      | map=>exact h2.elim
      | rows z' rs2=>
       obtain ⟨rfl,hlen,hrow⟩:=h2
       obtain ⟨li,g1,g2,g3,g4⟩:=h0
       refine ⟨li,g1,g2,by omega,fun hn=>?_⟩
       obtain ⟨h5,cs,ty,h6,h7,h8⟩:=g4 hn
       refine ⟨?_,cs,ty,h6,h7,fun r row2 hr=>?_,fun r row2 j v2 c hr hj hc=>?_⟩
       ·unfold opened
        rw [if_neg (hno i li ⟨_,hi,by simp,g1,hn⟩)];exact h5
       ·have hlt := lt_of_getElem? hr
        have h9 : rs[r]? = some (rs[r]'(by omega)):=List.getElem?_eq_getElem _
        rw [(hrow r _ _ h9 hr).1];exact h8.wide r _ h9
       ·have hlt := lt_of_getElem? hr
        have h9 : rs[r]? = some (rs[r]'(by omega)):=List.getElem?_eq_getElem _
        have h10:=hrow r _ _ h9 hr
        have hjl:=lt_of_getElem? hj
        have h11 : (rs[r]'(by omega))[j]? = some ((rs[r]'(by omega))[j]'(by omega)):=List.getElem?_eq_getElem _
        exact hcell _ _ c (h10.2 j _ _ h11 hj) (h8.rel r _ j _ c h9 h11 hc)
     | iter t p=>
      cases o2 with
      | dead=>exact absurd rfl hd
      | rows=>exact h2.elim
      | map=>exact h2.elim
      | iter t' p'=>
       obtain ⟨rfl,rfl⟩:=h2
       obtain ⟨li,h1,h2,h3,h4,h5,h6⟩:=h0
       refine ⟨li,h1,?_,h3,h4,h5,h6⟩
       unfold opened
       rw [if_neg (hno i li ⟨_,hi,by simp,h1,by omega⟩)];exact h2
     | map es=>
      cases o2 with
      | dead=>exact absurd rfl hd
      | rows=>exact h2.elim
      | iter=>exact h2.elim
      | map es2=>
       obtain ⟨hlen,hent⟩:=h2
       obtain ⟨li,h1,h2,h3,h4,h5,xs,clock,h6,h7,h8⟩:=h0
       refine ⟨li,h1,?_,h3,h4,h5,xs,clock,h6,h7.trans hlen.symm,fun j k v e a b=>?_⟩
       ·unfold opened
        rw [if_neg (hno i li ⟨_,hi,by simp,h1,by omega⟩)];exact h2
       ·have hlt := lt_of_getElem? a
        have h9 : es[j]? = some (es[j]'(by omega)):=List.getElem?_eq_getElem _
        have h10:=hent j _ _ h9 a
        have h11:=h8 j _ _ e h9 b
        exact ⟨hcell _ _ _ h10.1 h11.1,hcell _ _ _ h10.2 h11.2⟩
   inj:=fun i j li lj hi hj hb=>hs.inj i j li lj (hal i li hi).2 (hal j lj hj).2 hb
   sig:=fun i hi=>hs.sig i (by omega)
   os:=hs.os,tape:=hs.tape,output:=hs.output,size:=hs.size
   frame:=fun b hb hd=>by
    have h1:=hs.frame b hb hd
    refine ⟨h1.1,?_⟩
    unfold opened
    rw [if_neg,h1.2]
    rintro ⟨i,l,hl,rfl⟩
    rcases hso.own i l hl with h2 | h2
    ·exact hd h2
    ·omega
   own:=fun i l hl=>hs.own i l (hal i l hl).2
   ple:=hs.ple.trans hle
   sle:=hs.sle }
theorem View.give (F : List Nat) (n : Nat) (l : List (Nat × PV)) (s2 : Store) (hl : s2.length = s.length)
  (ho : ∀ (k : Nat) (o2 : PObj),s2[k]? = some o2 → o2 ≠ .dead → k ∉ F ∧ ∃ o,s[k]? = some o ∧ FrzObj (only F 0 s) n o o2) (he : ∀ p ∈ l,FrzC (only F 0 s) n (e p.1) p.2) : ViewL m e s l s2:=by
 intro C pub σ a w N hC hs her
 obtain ⟨hs2,hcell⟩:=give_core F n s2 hl ho hs
 refine ⟨opened pub σ (only F 0 s) w,σ,hs2,her.size,her.defers,her.kept,fun t=>?_⟩
 induction l with
 | nil=>exact .any
 | cons p r ih=>
  obtain ⟨t',v⟩:=p
  unfold envOf
  split
  ·rename_i htt
   subst htt
   exact hcell _ _ _ (he (t,v) (by simp)) (her.rel t)
  ·exact ih fun q hq=>he q (by simp [hq])
end
def VoidC (K : Nat) (v v2 : PV) : Prop:=Soft v2 v ∨ (v = .nilsl ∧ v2 = .sl K 0 0)
theorem VoidC.same {K : Nat} {v : PV} : VoidC K v v:=.inl .refl
theorem VoidC.nil {K : Nat} : VoidC K .nilsl (.sl K 0 0):=.inr ⟨rfl,rfl⟩
def VoidObj (K : Nat) : PObj → PObj → Prop
 | _,.dead=>True
 | .rows z rs,.rows z' rs2=>z = z' ∧ rs2.length = rs.length ∧ ∀ (r : Nat) (row row2 : List PV),rs[r]? = some row → rs2[r]? = some row2 → row2.length = row.length ∧ ∀ (j : Nat) (v v2 : PV),row[j]? = some v → row2[j]? = some v2 → VoidC K v v2
 | .iter t p,.iter t' p'=>t = t' ∧ p = p'
 | .map es,.map es2=>es = es2
 | _,_=>False
theorem VoidObj.same {K : Nat} {o : PObj} : VoidObj K o o:=by
 cases o with
 | dead=>trivial
 | rows z rs=>exact ⟨rfl,rfl,fun r row row2 h h2=>by rw [h] at h2;cases h2;exact ⟨rfl,fun j v v2 h h2=>by rw [h] at h2;cases h2;exact .same⟩⟩
 | iter t p=>exact ⟨rfl,rfl⟩
 | map es=>exact rfl
section
variable {m : Nat} {e : Env} {s : Store}
theorem View.void (esz : Nat) (l : List (Nat × PV)) (s2 : Store) (hl : s2.length = s.length)
  (ho : ∀ (k : Nat) (o2 : PObj),s2[k]? = some o2 → ∃ o,s[k]? = some o ∧ VoidObj s.length o o2) (he : ∀ p ∈ l,VoidC s.length (e p.1) p.2) : ViewL m e s l (s2 ++ [.rows esz []]):=by
 intro C pub σ a w N hC hs her
 have hv:=hs.void 0 0 esz
 have hle:=hs.toBase.le_add ⟨0,0,esz,0⟩
 generalize hτ : σ.add s.length ⟨0,0,esz,0⟩ = τ at hv hle
 have hK : τ s.length = some ⟨0,0,esz,0⟩:=by rw [← hτ];exact Sig.add_same _ _ _
 have hcell : ∀ v v2 c,VoidC s.length v v2 → Rel pub τ v c → Rel pub τ v2 c:=by
  intro v v2 c h hr
  rcases h with h | ⟨rfl,rfl⟩
  ·exact h.rel hr
  ·cases hr;exact .sl hK (Nat.le_refl _) (Nat.zero_le _) (fun h=>by omega)
 have hget : ∀ (k : Nat) (o2 : PObj),(s2 ++ [PObj.rows esz []])[k]? = some o2 → ∃ o,(s ++ [PObj.rows esz []])[k]? = some o ∧ VoidObj s.length o o2:=by
  intro k o2 h
  rcases Nat.lt_or_ge k s2.length with hk | hk
  ·rw [List.getElem?_append_left hk] at h
   obtain ⟨o,h1,h2⟩:=ho k o2 h
   exact ⟨o,by rw [List.getElem?_append_left (by omega)];exact h1,h2⟩
  ·rw [List.getElem?_append_right hk,hl] at h
   exact ⟨o2,by rw [List.getElem?_append_right (by omega)];exact h,.same⟩
 have hal : ∀ i li,Alive (s2 ++ [PObj.rows esz []]) τ i li → Alive (s ++ [PObj.rows esz []]) τ i li:=by
  rintro i li ⟨o2,h1,h2,h3,h4⟩
  obtain ⟨o,h6,h7⟩:=hget i o2 h1
  refine ⟨o,h6,?_,h3,h4⟩
  rintro rfl
  cases o2 <;> first | exact h2 rfl | exact h7
 refine ⟨pub,τ,?_,her.size,her.defers,her.kept,fun t=>?_⟩
 ·exact {
   pubIn:=hv.pubIn
   obj:=fun i o2 hi=>by
    by_cases hd : o2 = .dead
    ·subst hd;trivial
    ·obtain ⟨o,h1,h2⟩ := hget i o2 hi
     have h0:=hv.obj i o h1
     cases o with
     | dead=>cases o2 <;> first | exact absurd rfl hd | exact h2.elim
     | rows z rs=>
      cases o2 with
      | dead=>exact absurd rfl hd
      | iter=>exact h2.elim
      | map=>exact h2.elim
      | rows z' rs2=>
       obtain ⟨rfl,hlen,hrow⟩:=h2
       obtain ⟨li,g1,g2,g3,g4⟩:=h0
       refine ⟨li,g1,g2,by omega,fun hn=>?_⟩
       obtain ⟨h5,cs,ty,h6,h7,h8⟩:=g4 hn
       refine ⟨h5,cs,ty,h6,h7,fun r row2 hr=>?_,fun r row2 j v2 c hr hj hc=>?_⟩
       ·have hlt := lt_of_getElem? hr
        have h9 : rs[r]? = some (rs[r]'(by omega)):=List.getElem?_eq_getElem _
        rw [(hrow r _ _ h9 hr).1];exact h8.wide r _ h9
       ·have hlt := lt_of_getElem? hr
        have h9 : rs[r]? = some (rs[r]'(by omega)):=List.getElem?_eq_getElem _
        have h10:=hrow r _ _ h9 hr
        have hjl:=lt_of_getElem? hj
        have h11 : (rs[r]'(by omega))[j]? = some ((rs[r]'(by omega))[j]'(by omega)):=List.getElem?_eq_getElem _
        exact hcell _ _ c (h10.2 j _ _ h11 hj) (h8.rel r _ j _ c h9 h11 hc)
     | iter t p=>
      cases o2 with
      | dead=>exact absurd rfl hd
      | rows=>exact h2.elim
      | map=>exact h2.elim
      | iter t' p'=>obtain ⟨rfl,rfl⟩:=h2;exact h0
     | map es=>
      cases o2 with
      | dead=>exact absurd rfl hd
      | rows=>exact h2.elim
      | iter=>exact h2.elim
      | map es2=>obtain rfl:=h2;exact h0
   inj:=fun i j li lj hi hj hb=>hv.inj i j li lj (hal i li hi) (hal j lj hj) hb
   sig:=fun i hi=>hv.sig i (by simp at hi ⊢;omega)
   os:=hv.os,tape:=hv.tape,output:=hv.output,size:=hv.size
   frame:=hv.frame
   own:=fun i l hl=>hv.own i l (hal i l hl)
   ple:=hv.ple
   sle:=hv.sle }
 ·induction l with
  | nil=>exact .any
  | cons p r ih=>
   obtain ⟨t',v⟩:=p
   unfold envOf
   split
   ·rename_i htt
    subst htt
    exact hcell _ _ _ (he (t,v) (by simp)) ((her.rel t).mono PHeap.le.rfl' hle)
   ·exact ih fun q hq=>he q (by simp [hq])
end
section
variable {m : Nat} {e : Env} {s : Store}
def VoidL (K : Nat) : Store → Store → Prop
 | [],[]=>True
 | o :: r,p :: q=>VoidObj K o p ∧ VoidL K r q
 | _,_=>False
theorem VoidL.get {K : Nat} : ∀ {a b : Store},VoidL K a b → b.length = a.length ∧ ∀ (k : Nat) (o2 : PObj),b[k]? = some o2 → ∃ o,a[k]? = some o ∧ VoidObj K o o2
 | [],[],_=>⟨rfl,fun k o2 h=>by simp at h⟩
 | [],_ :: _,h=>h.elim
 | _ :: _,[],h=>h.elim
 | o :: r,p :: q,⟨h1,h2⟩=>by
  obtain ⟨h3,h4⟩:=VoidL.get h2
  refine ⟨by simp [h3],fun k o2 h=>?_⟩
  cases k with
  | zero=>simp at h;subst h;exact ⟨o,rfl,h1⟩
  | succ k=>simpa using h4 k o2 (by simpa using h)
def VoidEnv (K : Nat) (e : Env) : List (Nat × PV) → Prop
 | []=>True
 | (t,v) :: r=>VoidC K (e t) v ∧ VoidEnv K e r
theorem VoidEnv.get {K : Nat} : ∀ (l : List (Nat × PV)),VoidEnv K e l → ∀ p ∈ l,VoidC K (e p.1) p.2
 | [],_,p,hp=>by cases hp
 | (n,v) :: r,h,p,hp=>by
  cases hp with
  | head=>exact h.1
  | tail _ hp=>exact VoidEnv.get r h.2 p hp
theorem VoidObj.set {K z i : Nat} {A : List (List PV)} {r r' : List PV} (h : A[i]? = some r) (hl : r'.length = r.length) (g : ∀ (j : Nat) (v v2 : PV),r[j]? = some v → r'[j]? = some v2 → VoidC K v v2) : VoidObj K (.rows z A) (.rows z (A.set i r')):=by
 refine ⟨rfl,by simp,fun k row row2 hr hr2=>?_⟩
 rw [List.getElem?_set] at hr2
 by_cases e : i = k
 ·subst e
  rw [h] at hr;cases hr
  simp only [if_true] at hr2
  split at hr2
  ·cases hr2;exact ⟨hl,g⟩
  ·cases hr2
 ·rw [if_neg e,hr] at hr2; cases hr2
  exact ⟨rfl,fun j v v2 a b=>by rw [a] at b;cases b;exact .same⟩
def GiveL (F : List Nat) (G : Store) (n : Nat) : Nat → Store → Store → Prop
 | _,[],[]=>True
 | k,o :: r,p :: q=>(p = .dead ∨ (k ∉ F ∧ FrzObj G n o p)) ∧ GiveL F G n (k + 1) r q
 | _,_,_=>False
theorem GiveL.get {F : List Nat} {G : Store} {n : Nat} : ∀ {a b : Store} {i : Nat},GiveL F G n i a b → b.length = a.length ∧ ∀ (k : Nat) (o2 : PObj),b[k]? = some o2 → o2 ≠ .dead → i + k ∉ F ∧ ∃ o,a[k]? = some o ∧ FrzObj G n o o2
 | [],[],_,_=>⟨rfl,fun k o2 h=>by simp at h⟩
 | [],_ :: _,_,h=>h.elim
 | _ :: _,[],_,h=>h.elim
 | o :: r,p :: q,i,⟨h1,h2⟩=>by
  obtain ⟨h3,h4⟩:=GiveL.get h2
  refine ⟨by simp [h3],fun k o2 h hd=>?_⟩
  cases k with
  | zero=>
   simp at h;subst h
   rcases h1 with h1 | h1
   ·exact absurd h1 hd
   ·exact ⟨h1.1,o,rfl,h1.2⟩
  | succ k=>
   have:=h4 k o2 (by simpa using h) hd
   refine ⟨by rw [show i + (k + 1) = i + 1 + k by omega];exact this.1,by simpa using this.2⟩
def GiveEnv (G : Store) (n : Nat) (e : Env) : List (Nat × PV) → Prop
 | []=>True
 | (t,v) :: r=>FrzC G n (e t) v ∧ GiveEnv G n e r
theorem GiveEnv.get {G : Store} {n : Nat} : ∀ (l : List (Nat × PV)),GiveEnv G n e l → ∀ p ∈ l,FrzC G n (e p.1) p.2
 | [],_,p,hp=>by cases hp
 | (n,v) :: r,h,p,hp=>by
  cases hp with
  | head=>exact h.1
  | tail _ hp=>exact GiveEnv.get r h.2 p hp
theorem FrzObj.set {G : Store} {n z i : Nat} {A : List (List PV)} {r r' : List PV} (h : A[i]? = some r) (hl : r'.length = r.length) (g : ∀ (j : Nat) (v v2 : PV),r[j]? = some v → r'[j]? = some v2 → FrzC G n v v2) : FrzObj G n (.rows z A) (.rows z (A.set i r')):=by
 refine ⟨rfl,by simp,fun k row row2 hr hr2=>?_⟩
 rw [List.getElem?_set] at hr2
 by_cases e : i = k
 ·subst e
  rw [h] at hr;cases hr
  simp only [if_true] at hr2
  split at hr2
  ·cases hr2;exact ⟨hl,g⟩
  ·cases hr2
 ·rw [if_neg e,hr] at hr2; cases hr2
  exact ⟨rfl,fun j v v2 a b=>by rw [a] at b;cases b;exact .same⟩
end
def VoidCs (K : Nat) : List PV → List PV → Prop
 | [],[]=>True
 | x :: xs,y :: ys=>VoidC K x y ∧ VoidCs K xs ys
 | _,_=>False
theorem VoidCs.get {K : Nat} : ∀ {xs ys : List PV},VoidCs K xs ys → ys.length = xs.length ∧ ∀ (j : Nat) (v v2 : PV),xs[j]? = some v → ys[j]? = some v2 → VoidC K v v2
 | [],[],_=>⟨rfl,fun j v v2 h=>by simp at h⟩
 | [],_ :: _,h=>h.elim
 | _ :: _,[],h=>h.elim
 | x :: xs,y :: ys,⟨h1,h2⟩=>by
  obtain ⟨h3,h4⟩:=VoidCs.get h2
  refine ⟨by simp [h3],fun j v v2 h h'=>?_⟩
  cases j with
  | zero=>simp at h h';subst h h';exact h1
  | succ j=>exact h4 j v v2 (by simpa using h) (by simpa using h')
theorem VoidObj.one {K z : Nat} {r r' : List PV} (h : VoidCs K r r') : VoidObj K (.rows z [r]) (.rows z [r']):=
 ⟨rfl,rfl,fun k row row2 hr hr2=>by
  cases k with
  | zero=>simp at hr hr2;subst hr hr2;exact h.get
  | succ k=>simp at hr⟩
theorem CallOK.given {P : Program} {f : FuncId} {args : List PV} {s s' : Store} {v : PV} (p : Prop) (hp : ∀ pub σ cargs,RelA pub σ args cargs → p) (h : p → CallOK P f args s v s') : CallOK P f args s v s':=
 fun pub σ w cargs hb ha=>h (hp pub σ cargs ha) pub σ w cargs hb ha
theorem View.reshape {m : Nat} {e : Env} {s : Store} (t i off z : Nat) (row : List PV) (he : e t = .ptr i 0 off) (hi : s[i]? = some (.rows z [row])) :
  View m e s (e.upd (some t) (.ptr s.length 0 off)) (s.set i .dead ++ [.rows 1 (row.map fun x=>[x])]):=by
 intro C pub σ a w N hC hs her
 have ht:=her.rel t
 rw [he] at ht
 obtain ⟨l,hσ⟩ : ∃ l,σ i = some l:=by
  generalize a.tmps.getD t undef = c at ht
  cases ht with
  | ptr hσ=>exact ⟨_,hσ⟩
 obtain ⟨hn,hle,cs,ty,hb,hsz,hR⟩:=hs.rows hi hσ (by simp)
 have hw:=hR.wide 0 row rfl
 have hal:=ObjOK.alive hs.obj ⟨_,hi,by simp,hσ,hn⟩
 have hlt:=hs.toBase.le_add ⟨l.b,l.o,1,l.esz⟩
 have hf : l.esz ≤ l.n * l.esz:=Nat.le_mul_of_pos_left _ hn
 have hobj : ObjOK pub (σ.add s.length ⟨l.b,l.o,1,l.esz⟩) w s.length (.rows 1 (row.map fun x=>[x])):=by
  refine ⟨_,Sig.add_same _ _ _,rfl,by simp [hw],fun _=>⟨hal.1,cs,ty,hb,by simp only;omega,?_,?_⟩⟩
  ·intro r row' hr
   rw [List.getElem?_map,Option.map_eq_some_iff] at hr
   obtain ⟨x,_,rfl⟩:=hr;rfl
  ·intro r row' j v c hr hj hc
   rw [List.getElem?_map,Option.map_eq_some_iff] at hr
   obtain ⟨x,hx,rfl⟩:=hr
   cases j with
   | succ j=>simp at hj
   | zero=>
    simp only [List.getElem?_cons_zero,Option.some.injEq] at hj
    subst hj
    refine (hR.rel 0 row r x c rfl hx ?_).up hlt
    rw [← hc];simp
 refine ⟨pub,σ.add s.length ⟨l.b,l.o,1,l.esz⟩,hs.rehome i _ l ⟨l.b,l.o,1,l.esz⟩ hi (by simp) hσ hn rfl _ hobj,her.size,her.defers,her.kept,fun t'=>?_⟩
 unfold Env.upd
 dsimp only
 by_cases e1 : t' = t
 ·subst e1
  rw [if_pos rfl]
  generalize a.tmps.getD t' undef = c at ht
  cases ht with
  | ptr hσ'=>
   rw [hσ] at hσ';cases hσ'
   have:=Rel.ptr (pub:=pub) (row:=0) (off:=off) (Sig.add_same σ s.length ⟨l.b,l.o,1,l.esz⟩)
   simpa using this
 ·rw [if_neg e1]
  exact (her.rel t').up hlt
end Go.Pv
