import Derived.Test.YtbimioonhfhflaaDPvMix
import Derived.IntWalk
set_option linter.unusedVariables false
set_option linter.unusedSimpArgs false
namespace Go.Pv
open Go Go.RowKit
def only (F : List Nat) : Nat → Store → Store
 | _,[]=>[]
 | i,o :: r=>(if i ∈ F then o else .dead) :: only F (i + 1) r
def less (F : List Nat) : Nat → Store → Store
 | _,[]=>[]
 | i,o :: r=>(if i ∈ F then .dead else o) :: less F (i + 1) r
theorem only_length (F : List Nat) (s : Store) : ∀ i,(only F i s).length = s.length:=by
 induction s with
 | nil=>intro i;rfl
 | cons o r ih=>intro i;simp [only,ih]
theorem less_length (F : List Nat) (s : Store) : ∀ i,(less F i s).length = s.length:=by
 induction s with
 | nil=>intro i;rfl
 | cons o r ih=>intro i;simp [less,ih]
theorem only_get (F : List Nat) (s : Store) : ∀ (i k : Nat) (o : PObj),(only F i s)[k]? = some o → o ≠ .dead → s[k]? = some o ∧ i + k ∈ F:=by
 induction s with
 | nil=>intro i k o h;simp [only] at h
 | cons a r ih=>
  intro i k o h hd
  cases k with
  | zero=>
   simp only [only,List.getElem?_cons_zero,Option.some.injEq] at h
   split at h
   ·subst h;exact ⟨rfl,by assumption⟩
   ·exact absurd h.symm hd
  | succ k=>
   have:=ih (i + 1) k o (by simpa [only] using h) hd
   exact ⟨by simpa using this.1,by have h2:=this.2;rw [show i + 1 + k = i + (k + 1) by omega] at h2;exact h2⟩
theorem less_get (F : List Nat) (s : Store) : ∀ (i k : Nat) (o : PObj),(less F i s)[k]? = some o → o ≠ .dead → s[k]? = some o ∧ i + k ∉ F:=by
 induction s with
 | nil=>intro i k o h;simp [less] at h
 | cons a r ih=>
  intro i k o h hd
  cases k with
  | zero=>
   simp only [less,List.getElem?_cons_zero,Option.some.injEq] at h
   split at h
   ·exact absurd h.symm hd
   ·subst h;exact ⟨rfl,by assumption⟩
  | succ k=>
   have:=ih (i + 1) k o (by simpa [less] using h) hd
   exact ⟨by simpa using this.1,by have h2:=this.2;rw [show i + 1 + k = i + (k + 1) by omega] at h2;exact h2⟩
section
variable {m : Nat} {e : Env} {s : Store}
theorem SR.sub {C : Ctx} {pub : PHeap} {σ : Sig} {s t : Store} {w : World} (hs : SR C pub σ s w) (hl : t.length = s.length) (ht : ∀ (k : Nat) (o : PObj),t[k]? = some o → o ≠ .dead → s[k]? = some o) : SR C pub σ t w:=by
 have hal : ∀ i l,Alive t σ i l → Alive s σ i l:=by
  rintro i l ⟨o,h1,h2,h3,h4⟩
  exact ⟨o,ht i o h1 h2,h2,h3,h4⟩
 exact {
  pubIn:=hs.pubIn
  obj:=fun i o hi=>by
   by_cases hd : o = .dead
   ·subst hd;trivial
   ·exact hs.obj i o (ht i o hi hd)
  inj:=fun i j li lj hi hj=>hs.inj i j li lj (hal _ _ hi) (hal _ _ hj)
  sig:=fun i hi=>hs.sig i (by omega)
  os:=hs.os,tape:=hs.tape,output:=hs.output,size:=hs.size
  frame:=hs.frame
  own:=fun i l hi=>hs.own i l (hal _ _ hi)
  ple:=hs.ple
  sle:=hs.sle }
def FrzEnv (F : List Nat) (n : Nat) (s : Store) (e : Env) : List (Nat × PV) → Prop
 | []=>True
 | (t,v) :: r=>(v = e t ∨ v = deref (only F 0 s) n (e t)) ∧ FrzEnv F n s e r
theorem View.freeze (F : List Nat) (n : Nat) (l : List (Nat × PV)) (he : FrzEnv F n s e l) : ViewL m e s l (less F 0 s):=by
 intro C pub σ a w N hC hs her
 have hso : SR C pub σ (only F 0 s) w:=hs.sub (only_length _ _ _) fun k o h hd=>(only_get F s 0 k o h hd).1
 have hsl : SR C pub σ (less F 0 s) w:=hs.sub (less_length _ _ _) fun k o h hd=>(less_get F s 0 k o h hd).1
 have hle:=opened_le hso
 have hno : ∀ i li,Alive (less F 0 s) σ i li → ¬ dom (only F 0 s) σ li.b:=by
  rintro i li ⟨o,h1,h2,h3,h4⟩ ⟨j,lj,⟨o',g1,g2,g3,g4⟩,hb⟩
  obtain ⟨h5,h6⟩:=less_get F s 0 i o h1 h2
  obtain ⟨g5,g6⟩:=only_get F s 0 j o' g1 g2
  have:=hs.inj i j li lj ⟨o,h5,h2,h3,h4⟩ ⟨o',g5,g2,g3,g4⟩ hb.symm
  subst this
  exact h6 g6
 refine ⟨opened pub σ (only F 0 s) w,σ,?_,her.size,her.defers,her.kept,fun t=>?_⟩
 ·exact {
   pubIn:=opened_in hso
   obj:=fun i o hi=>by
    have h0:=hsl.obj i o hi
    cases o with
    | dead=>trivial
    | rows z rs=>
     obtain ⟨li,h1,h2,h3,h4⟩:=h0
     refine ⟨li,h1,h2,h3,fun hn=>?_⟩
     obtain ⟨h5,cs,ty,h6,h7,h8⟩:=h4 hn
     refine ⟨?_,cs,ty,h6,h7,h8.wide,fun r row j v c a b d=>(h8.rel r row j v c a b d).mono hle Sig.le.rfl'⟩
     unfold opened
     rw [if_neg (hno i li ⟨_,hi,by simp,h1,hn⟩)];exact h5
    | iter t p=>
     obtain ⟨li,h1,h2,h3,h4,h5,h6⟩:=h0
     refine ⟨li,h1,?_,h3,h4,h5,h6⟩
     unfold opened
     rw [if_neg (hno i li ⟨_,hi,by simp,h1,by omega⟩)];exact h2
    | map es=>
     obtain ⟨li,h1,h2,h3,h4,h5,xs,clock,h6,h7,h8⟩:=h0
     refine ⟨li,h1,?_,h3,h4,h5,xs,clock,h6,h7,fun j k v e a b=>⟨(h8 j k v e a b).1.mono hle Sig.le.rfl',(h8 j k v e a b).2.mono hle Sig.le.rfl'⟩⟩
     unfold opened
     rw [if_neg (hno i li ⟨_,hi,by simp,h1,by omega⟩)];exact h2
   inj:=hsl.inj
   sig:=hsl.sig
   os:=hs.os,tape:=hs.tape,output:=hs.output,size:=hs.size
   frame:=fun b hb hd=>by
    have h1:=hs.frame b hb hd
    refine ⟨h1.1,?_⟩
    unfold opened
    rw [if_neg,h1.2]
    rintro ⟨i,l,hl,rfl⟩
    rcases hso.own i l hl with h2 | h2
    ·exact hd h2
    ·omega
   own:=hsl.own
   ple:=hs.ple.trans hle
   sle:=hs.sle }
 ·induction l with
  | nil=>exact .any
  | cons p r ih=>
   obtain ⟨t',v⟩:=p
   obtain ⟨h1,h2⟩:=he
   unfold envOf
   split
   ·rename_i htt
    subst htt
    rcases h1 with rfl | rfl
    ·exact (her.rel t).mono hle Sig.le.rfl'
    ·exact (deref_rel hso n _ _ (her.rel t)).mono PHeap.le.rfl' (noSig_le σ)
   ·exact ih h2
end
mutual
inductive Soft : PV → PV → Prop
 | refl {v} : Soft v v
 | nil : Soft (.list []) .nilsl
 | list {xs ys} (h : SoftR xs ys) : Soft (.list xs) (.list ys)
 | iptr {xs ys} (h : SoftL xs ys) : Soft (.iptr xs) (.iptr ys)
 | agg {xs ys} (h : SoftL xs ys) : Soft (.agg xs) (.agg ys)
 | tuple {xs ys} (h : SoftL xs ys) : Soft (.tuple xs) (.tuple ys)
 | imap {xs ys} (h : SoftM xs ys) : Soft (.imap xs) (.imap ys)
inductive SoftL : List PV → List PV → Prop
 | nil : SoftL [] []
 | cons {x y xs ys} (h : Soft x y) (g : SoftL xs ys) : SoftL (x :: xs) (y :: ys)
inductive SoftM : List (PV × PV) → List (PV × PV) → Prop
 | nil : SoftM [] []
 | cons {k v u xs ys} (h : Soft v u) (g : SoftM xs ys) : SoftM ((k,v) :: xs) ((k,u) :: ys)
inductive SoftR : List (List PV) → List (List PV) → Prop
 | nil : SoftR [] []
 | cons {x y xs ys} (h : SoftL x y) (g : SoftR xs ys) : SoftR (x :: xs) (y :: ys)
end
mutual
theorem Soft.rel {pub : PHeap} : ∀ {v u : PV},Soft v u → ∀ {σ : Sig} {c : Value},Rel pub σ u c → Rel pub σ v c
 | _,_,.refl,_,_,h=>h
 | _,_,.nil,_,_,h=>by cases h;exact .list0 (Nat.zero_le _)
 | _,_,.list (xs:=xs) (ys:=ys) g,σ,c,h=>by
  have hg:=g.get (pub:=pub)
  cases h with
  | list0 hc=>have : xs = []:=List.length_eq_zero_iff.1 hg.1;subst this;exact .list0 hc
  | list hb hlen hcap hw hsz hr=>
   rename_i b o cs ty fr esz cap
   have key : Rel pub σ (.list xs) (.slice (some ⟨b,o,none⟩) xs.length cap):=by
    refine .list (esz:=esz) hb (by omega) hcap ?_ (by rw [hg.1];exact hsz) ?_
    ·intro r row hrow
     have hlt:=lt_of_getElem? hrow
     have hy : ys[r]? = some (ys[r]'(by omega)):=List.getElem?_eq_getElem _
     rw [(hg.2 r row _ hrow hy).1];exact hw r _ hy
    ·intro r row j v c hrow hj hc
     have hlt:=lt_of_getElem? hrow
     have hy : ys[r]? = some (ys[r]'(by omega)):=List.getElem?_eq_getElem _
     have h2:=hg.2 r row _ hrow hy
     have hjl:=lt_of_getElem? hj
     have hyj : (ys[r]'(by omega))[j]? = some ((ys[r]'(by omega))[j]'(by omega)):=List.getElem?_eq_getElem _
     exact h2.2 j v _ hj hyj noSig c (hr r _ j _ c hy hyj hc)
   rw [hg.1] at key;exact key
 | _,_,.iptr (xs:=xs) (ys:=ys) g,σ,c,h=>by
  have hg:=g.get (pub:=pub)
  cases h with
  | iptr hb hsz hr=>
   refine .iptr hb (by omega) fun j v c hj hc=>?_
   have hjl:=lt_of_getElem? hj
   have hyj : ys[j]? = some (ys[j]'(by omega)):=List.getElem?_eq_getElem _
   exact hg.2 j v _ hj hyj noSig c (hr j _ c hyj hc)
 | _,_,.agg (xs:=xs) (ys:=ys) g,σ,c,h=>by
  have hg:=g.get (pub:=pub)
  cases h with
  | agg hsz hr=>
   refine .agg (by omega) fun j v c hj hc=>?_
   have hjl:=lt_of_getElem? hj
   have hyj : ys[j]? = some (ys[j]'(by omega)):=List.getElem?_eq_getElem _
   exact hg.2 j v _ hj hyj σ c (hr j _ c hyj hc)
 | _,_,.tuple (xs:=xs) (ys:=ys) g,σ,c,h=>by
  have hg:=g.get (pub:=pub)
  cases h with
  | tuple hsz hr=>
   refine .tuple (by omega) fun j v c hj hc=>?_
   have hjl:=lt_of_getElem? hj
   have hyj : ys[j]? = some (ys[j]'(by omega)):=List.getElem?_eq_getElem _
   exact hg.2 j v _ hj hyj σ c (hr j _ c hyj hc)
 | _,_,.imap (xs:=xs) (ys:=ys) g,σ,c,h=>by
  have hg:=g.get (pub:=pub)
  cases h with
  | imap hb hsz hk hv=>
   refine .imap hb (by omega) (fun j k v e hj he=>?_) fun j k v e hj he=>?_
   all_goals
    have hjl:=lt_of_getElem? hj
    have hyj : ys[j]? = some (ys[j]'(by omega)):=List.getElem?_eq_getElem _
    obtain ⟨h1,h2⟩:=hg.2 j k v _ _ hj hyj
   ·subst h1;exact hk j _ _ e hyj he
   ·exact h2 noSig _ (hv j _ _ e hyj he)
theorem SoftM.get {pub : PHeap} : ∀ {xs ys : List (PV × PV)},SoftM xs ys → xs.length = ys.length ∧ ∀ (j : Nat) (k v k' u : PV),xs[j]? = some (k,v) → ys[j]? = some (k',u) → k = k' ∧ ∀ (σ : Sig) (c : Value),Rel pub σ u c → Rel pub σ v c
 | _,_,.nil=>⟨rfl,fun j k v k' u h=>by simp at h⟩
 | _,_,.cons h g => ⟨by simp [(g.get (pub := pub)).1],fun j k v k' u hv hu => by
   cases j with
   | zero=>simp at hv hu;obtain ⟨rfl,rfl⟩:=hv;obtain ⟨rfl,rfl⟩:=hu;exact ⟨rfl,fun σ c hr=>h.rel hr⟩
   | succ j=>exact (g.get (pub:=pub)).2 j k v k' u (by simpa using hv) (by simpa using hu)⟩
theorem SoftL.get {pub : PHeap} : ∀ {xs ys : List PV},SoftL xs ys → xs.length = ys.length ∧ ∀ (j : Nat) (v u : PV),xs[j]? = some v → ys[j]? = some u → ∀ (σ : Sig) (c : Value),Rel pub σ u c → Rel pub σ v c
 | _,_,.nil=>⟨rfl,fun j v u h=>by simp at h⟩
 | _,_,.cons h g => ⟨by simp [(g.get (pub := pub)).1],fun j v u hv hu σ c hr => by
   cases j with
   | zero=>simp at hv hu;subst hv hu;exact h.rel hr
   | succ j=>exact (g.get (pub:=pub)).2 j v u (by simpa using hv) (by simpa using hu) σ c hr⟩
theorem SoftR.get {pub : PHeap} : ∀ {xs ys : List (List PV)},SoftR xs ys → xs.length = ys.length ∧ ∀ (r : Nat) (row row' : List PV),xs[r]? = some row → ys[r]? = some row' → row.length = row'.length ∧ ∀ (j : Nat) (v u : PV),row[j]? = some v → row'[j]? = some u → ∀ (σ : Sig) (c : Value),Rel pub σ u c → Rel pub σ v c
 | _,_,.nil=>⟨rfl,fun j v u h=>by simp at h⟩
 | _,_,.cons h g => ⟨by simp [(g.get (pub := pub)).1],fun r row row' hv hu => by
   cases r with
   | zero=>simp at hv hu;subst hv hu;exact h.get
   | succ r=>exact (g.get (pub:=pub)).2 r row row' (by simpa using hv) (by simpa using hu)⟩
end
theorem SoftM.rfl' : ∀ xs : List (PV × PV),SoftM xs xs
 | []=>.nil
 | p :: r=>.cons .refl (SoftM.rfl' r)
theorem SoftM.app {xs ys xs' ys' : List (PV × PV)} (h : SoftM xs ys) (g : SoftM xs' ys') : SoftM (xs ++ xs') (ys ++ ys'):=by
 induction xs generalizing ys with
 | nil=>cases h;exact g
 | cons p r ih=>cases h with | cons h1 h2=>exact .cons h1 (ih h2)
section
variable {P : Program} {m : Nat} {e : Env} {s : Store}
theorem CallOK.soft {f : FuncId} {args args' : List PV} {v : PV} {s' : Store} (h : CallOK P f args s v s') (g : SoftL args args') : CallOK P f args' s v s':=by
 intro pub σ w cargs hb ha
 have hg:=g.get (pub:=pub)
 refine h pub σ w cargs hb ⟨by rw [ha.1];exact hg.1.symm,fun j v c hv hc=>?_⟩
 have hl:=lt_of_getElem? hv
 have hy : args'[j]? = some (args'[j]'(by omega)):=List.getElem?_eq_getElem _
 exact hg.2 j v _ hv hy σ c (ha.2 j _ c hy hc)
def SoftEnv (e : Env) : List (Nat × PV) → Prop
 | []=>True
 | (t,v) :: r=>Soft v (e t) ∧ SoftEnv e r
theorem View.soft (l : List (Nat × PV)) (he : SoftEnv e l) : ViewL m e s l s:=by
 intro C pub σ a w N hC hs her
 refine ⟨pub,σ,hs,her.size,her.defers,her.kept,fun t=>?_⟩
 induction l with
 | nil=>exact .any
 | cons p r ih=>
  obtain ⟨t',v⟩:=p
  obtain ⟨h1,h2⟩:=he
  unfold envOf
  split
  ·rename_i htt;subst htt;exact h1.rel (her.rel t)
  ·exact ih h2
end
end Go.Pv
namespace Go.Pv
open Go
inductive Fm where
 | mk (kind : Int) (name : ByteArray) (kids : List Fm)
 deriving Inhabited
def Fm.kind : Fm → Int | .mk k _ _=>k
def Fm.name : Fm → ByteArray | .mk _ n _=>n
def Fm.kids : Fm → List Fm | .mk _ _ l=>l
def strRow (t : ByteArray) : List PV:=[.str t]
def boolRow (b : Bool) : List PV:=[.bool b]
def intRow (n : Int) : List PV:=[.int .i64 n]
theorem bsize (a : Array UInt8) : ByteArray.size ⟨a⟩ = a.size:=rfl
theorem nn (n : Nat) : (0 ≤ (n : Int)) ↔ True:=by simp
theorem concat_get {α : Type} (l : List α) (x : α) : (l ++ [x])[l.length]? = some x:=by simp
theorem concat_set {α : Type} (l : List α) (x y : α) : (l ++ [x]).set l.length y = l ++ [y]:=by simp
theorem range_get {n i : Nat} (h : i < n) : (List.range n)[i]? = some i:=by simp [h]
theorem View.pre {m : Nat} {e : Env} {s s' : Store} (l : List (Nat × PV)) (hm : m ≤ s'.length) (hpre : s' <+: s) (hself : ∀ o ∈ s',RenObjD (List.range s'.length) o o) (he : RenEnv (List.range s'.length) e l) : ViewL m e s l s':=by
 refine .norm (List.range s'.length) (fun i hi=>range_get (by omega)) List.nodup_range (by simp) (fun i o' hi=>?_) l (RenEnv.get l he)
 have hlt:=lt_of_getElem? hi
 obtain ⟨t,rfl⟩:=hpre
 exact ⟨i,o',range_get hlt,by rw [List.getElem?_append_left hlt];exact hi,(hself o' (List.mem_of_getElem? hi)).ren⟩
theorem lga : (∀ {α : Type} (l : List α) (x : α),(l ++ [x])[List.length l]? = some x) ∧ (∀ {α : Type} (l : List α) (x y : α),List.set (l ++ [x]) (List.length l) y = l ++ [y]) ∧ (∀ {a b c : Prop},(a ∧ b) ∧ c ↔ a ∧ b ∧ c) ∧ (∀ (a : Array UInt8),ByteArray.size { data:=a } = Array.size a) ∧ (∀ {α : Type} {as : List α},Array.size (List.toArray as) = List.length as) ∧ (∀ (a b : Int),a + b - b = a) ∧ (∀ (n : Nat),n - 0 = n) ∧ (∀ {α : Type} {as bs : List α},List.length (as ++ bs) = List.length as + List.length bs) ∧ (∀ {α : Type} {as : List α},List.length (List.reverse as) = List.length as):=⟨@concat_get,@concat_set,@and_assoc,@bsize,@List.size_toArray,@Int.add_sub_cancel,@Nat.sub_zero,@List.length_append,@List.length_reverse⟩
theorem lgb : (∀ {α : Type} (val val_1 : α),(some val = some val_1) = (val = val_1)) ∧ (∀ {α : Type} {p : α → Prop} {a' : α},(∀ (a : α),a' = a → p a) ↔ p a') ∧ (∀ {α : Type} {p : α → Prop} {a' : α},(∀ (a : α),a = a' → p a) ↔ p a') ∧ (∀ (p : Prop),(True ∧ p) = p) ∧ (∀ (p : Prop),(p ∧ True) = p) ∧ (∀ (p : Prop),(False ∧ p) = False) ∧ (∀ (p : Prop),(p ∧ False) = False) ∧ (∀ {α : Type} {p : α → Prop} {a' : α},(∃ a,a' = a ∧ p a) ↔ p a') ∧ (∀ {α : Type} {p : α → Prop} {a' : α},(∃ a,a = a' ∧ p a) ↔ p a'):=⟨@Option.some.injEq,@forall_eq',@forall_eq,@true_and,@and_true,@false_and,@and_false,@exists_eq_left',@exists_eq_left⟩
theorem lgc : (∀ {α : Type} {p : α → Prop} {a' : α},(∃ a,p a ∧ a = a') ↔ p a') ∧ (∀ {α : Type} {p : α → Prop} {a' : α},(∃ a,p a ∧ a' = a) ↔ p a') ∧ (∀ {α : Type} {a' : α},∃ a,a' = a) ∧ (∀ {α : Type} {a' : α},∃ a,a = a') ∧ (∀ {α : Type} {p : α → Prop} {b : Prop},(∃ x,b ∧ p x) ↔ b ∧ ∃ x,p x) ∧ (∀ {α : Type} {p : α → Prop} {b : Prop},(∃ x,p x ∧ b) ↔ (∃ x,p x) ∧ b) ∧ (∀ {b : Prop} (α : Type) [i : Nonempty α],(∃ _x : α,b) ↔ b) ∧ (∀ {α : Type} {x : Decidable True} (t e : α),(if True then t else e) = t) ∧ (∀ {α : Type} {x : Decidable False} (t e : α),(if False then t else e) = e):=⟨@exists_eq_right,@exists_eq_right',@exists_eq',@exists_eq,@exists_and_left,@exists_and_right,@exists_const,@if_true,@if_false⟩
theorem lgd : (∀ (n : Nat),n + 0 = n) ∧ (∀ (n : Nat),0 + n = n) ∧ (∀ (k : IntKind) (n : Int) (k_1 : IntKind) (n_1 : Int),(PV.int k n = PV.int k_1 n_1) = (k = k_1 ∧ n = n_1)) ∧ (∀ (b b_1 : Bool),(PV.bool b = PV.bool b_1) = (b = b_1)) ∧ (∀ (s s_1 : ByteArray),(PV.str s = PV.str s_1) = (s = s_1)) ∧ (∀ (i row off i_1 row_1 off_1 : Nat),(PV.ptr i row off = PV.ptr i_1 row_1 off_1) = (i = i_1 ∧ row = row_1 ∧ off = off_1)) ∧ (∀ (i off len i_1 off_1 len_1 : Nat),(PV.sl i off len = PV.sl i_1 off_1 len_1) = (i = i_1 ∧ off = off_1 ∧ len = len_1)) ∧ (∀ (f : Fn) (first captured : List PV) (f_1 : Fn) (first_1 captured_1 : List PV),(PV.fn f first captured = PV.fn f_1 first_1 captured_1) = (f = f_1 ∧ first = first_1 ∧ captured = captured_1)) ∧ (∀ (vs vs_1 : List PV),(PV.tuple vs = PV.tuple vs_1) = (vs = vs_1)):=⟨@Nat.add_zero,@Nat.zero_add,@PV.int.injEq,@PV.bool.injEq,@PV.str.injEq,@PV.ptr.injEq,@PV.sl.injEq,@PV.fn.injEq,@PV.tuple.injEq⟩
theorem lge : (∀ (xs xs_1 : List (List PV)),(PV.list xs = PV.list xs_1) = (xs = xs_1)) ∧ (∀ (cells cells_1 : List PV),(PV.iptr cells = PV.iptr cells_1) = (cells = cells_1)) ∧ (∀ (cells cells_1 : List PV),(PV.agg cells = PV.agg cells_1) = (cells = cells_1)) ∧ (∀ (esz : Nat) (r : List (List PV)) (esz_1 : Nat) (r_1 : List (List PV)),(PObj.rows esz r = PObj.rows esz_1 r_1) = (esz = esz_1 ∧ r = r_1)) ∧ (∀ (s : ByteArray) (pos : Nat) (s_1 : ByteArray) (pos_1 : Nat),(PObj.iter s pos = PObj.iter s_1 pos_1) = (s = s_1 ∧ pos = pos_1)) ∧ (∀ (f f_1 : FuncId),(Fn.func f = Fn.func f_1) = (f = f_1)) ∧ (∀ (e esz bytes : Nat) (agg : Bool) (zero : Option (List PV)) (e_1 esz_1 bytes_1 : Nat) (agg_1 : Bool) (zero_1 : Option (List PV)),(TK.slice e esz bytes agg zero = TK.slice e_1 esz_1 bytes_1 agg_1 zero_1) = (e = e_1 ∧ esz = esz_1 ∧ bytes = bytes_1 ∧ agg = agg_1 ∧ zero = zero_1)) ∧ (∀ (fs fs_1 : List (Nat × Nat × Nat × Bool)),(TK.struct fs = TK.struct fs_1) = (fs = fs_1)) ∧ (∀ (n e esz : Nat) (agg : Bool) (n_1 e_1 esz_1 : Nat) (agg_1 : Bool),(TK.array n e esz agg = TK.array n_1 e_1 esz_1 agg_1) = (n = n_1 ∧ e = e_1 ∧ esz = esz_1 ∧ agg = agg_1)):=⟨@PV.list.injEq,@PV.iptr.injEq,@PV.agg.injEq,@PObj.rows.injEq,@PObj.iter.injEq,@Fn.func.injEq,@TK.slice.injEq,@TK.struct.injEq,@TK.array.injEq⟩
theorem lgf : (∀ (k k_1 : IntKind),(TK.int k = TK.int k_1) = (k = k_1)) ∧ (∀ {α : Type} {β : Type} (fst : α) (snd : β) (fst_1 : α) (snd_1 : β),((fst,snd) = (fst_1,snd_1)) = (fst = fst_1 ∧ snd = snd_1)) ∧ (∀ {α : Type} (head : α) (tail : List α) (head_1 : α) (tail_1 : List α),(head :: tail = head_1 :: tail_1) = (head = head_1 ∧ tail = tail_1)) ∧ (∀ {α : Type} (as : List α),[] ++ as = as) ∧ (∀ {α : Type} {a : α} {as bs : List α},a :: as ++ bs = a :: (as ++ bs)) ∧ (∀ {α : Type} (as : List α),as ++ [] = as) ∧ (∀ {α : Type} {β : Type} {f : α → β} {a : α} {l : List α},List.map f (a :: l) = f a :: List.map f l) ∧ (∀ {α : Type} {β : Type} {f : α → β},List.map f [] = []) ∧ (∀ {α : Type} {a : α} {l : List α},(a :: l)[0]? = some a):=⟨@TK.int.injEq,@Prod.mk.injEq,@List.cons.injEq,@List.nil_append,@List.cons_append,@List.append_nil,@List.map_cons,@List.map_nil,@List.getElem?_cons_zero⟩
theorem lgg : (∀ {α : Type} {a : α} {i : Nat} {l : List α},(a :: l)[i + 1]? = l[i]?) ∧ (∀ {α : Type} {i : Nat},([] : List α)[i]? = none) ∧ (∀ {α : Type} {a : α} {as : List α},List.length (a :: as) = List.length as + 1) ∧ (∀ {α : Type},List.length ([] : List α) = 0) ∧ (∀ {α : Type} {β : Type} {as : List α} (f : α → β),List.length (List.map f as) = List.length as) ∧ (∀ {α : Type} {x : α} {xs : List α} {a : α},List.set (x :: xs) 0 a = a :: xs) ∧ (∀ {α : Type} {x : α} {xs : List α} {i : Nat} {a : α},List.set (x :: xs) (i + 1) a = x :: List.set xs i a) ∧ (∀ {α : Type} {l : List α},List.drop 0 l = l) ∧ (∀ {α : Type} {a : α} {l : List α} {i : Nat},List.drop (i + 1) (a :: l) = List.drop i l):=⟨@List.getElem?_cons_succ,@List.getElem?_nil,@List.length_cons,@List.length_nil,@List.length_map,@List.set_cons_zero,@List.set_cons_succ,@List.drop_zero,@List.drop_succ_cons⟩
theorem lgh : (∀ {α : Type} {a : α} {as : List α} {i : Nat},List.take (i + 1) (a :: as) = a :: List.take i as) ∧ (∀ {α : Type} {l : List α},List.take 0 l = []) ∧ (∀ {α : Type} {i : Nat},List.take i ([] : List α) = []) ∧ (∀ {α : Type} {i : Nat},List.drop i ([] : List α) = []) ∧ (∀ {α : Type} {a : α} {l : List α} {f : α → Bool},List.all (a :: l) f = (f a && List.all l f)) ∧ (∀ {α : Type} {f : α → Bool},List.all [] f = true) ∧ (∀ {α : Type} {a : α} {n : Nat},List.replicate (n + 1) a = a :: List.replicate n a) ∧ (∀ {α : Type} {a : α},List.replicate 0 a = []) ∧ (∀ (b : Bool),(b && b) = b):=⟨@List.take_succ_cons,@List.take_zero,@List.take_nil,@List.drop_nil,@List.all_cons,@List.all_nil,@List.replicate_succ,@List.replicate_zero,@Bool.and_self⟩
theorem lgi : (∀ (b : Bool),(true && b) = b) ∧ (∀ (b : Bool),(b && true) = b) ∧ ((false = true) = False) ∧ ((!true) = false) ∧ ((!false) = true) ∧ (∀ {α : Type} {β : Type} (a : α) (f : α → β),Option.map f (some a) = some (f a)) ∧ (∀ {α : Type} {β : Type} (f : α → β),Option.map f none = none) ∧ (∀ {α : Type} {a b : α},Option.getD (some a) b = a) ∧ (∀ {α : Type} {a : α},Option.getD none a = a):=⟨@Bool.true_and,@Bool.and_true,@Bool.false_eq_true,@Bool.not_true,@Bool.not_false,@Option.map_some,@Option.map_none,@Option.getD_some,@Option.getD_none⟩
theorem lgj : (∀ (α : Type),(∀ (a : α),True) = True) ∧ (∀ {b : Prop} (α : Type) [i : Nonempty α],(∀ (a : α),b) ↔ b) ∧ ((¬True) = False) ∧ ((¬False) = True) ∧ (∀ {p : Prop} [inst : Decidable p],(decide p = true) = p) ∧ (∀ {p : Prop} {x : Decidable p},decide p = false ↔ ¬p) ∧ (∀ (h : Decidable True),decide True = true) ∧ (∀ (h : Decidable False),decide False = false) ∧ (∀ {α : Type} {b : α} {l : List α} {a : α},a ∈ b :: l ↔ a = b ∨ a ∈ l):=⟨@implies_true,@forall_const,@not_true_eq_false,@not_false_eq_true,@decide_eq_true_eq,@decide_eq_false_iff_not,@decide_true,@decide_false,@List.mem_cons⟩
theorem lgk : (∀ {α : Type} {a : α},¬a ∈ []) ∧ (∀ (p : Prop),(p ∨ False) = p) ∧ (∀ (p : Prop),(False ∨ p) = p) ∧ (∀ {a : Prop},a → False ↔ ¬a) ∧ (∀ (a : Prop),False → a ↔ True) ∧ (∀ {α : Prop},True → α ↔ α):=⟨@List.not_mem_nil,@or_false,@false_or,@imp_false,@false_imp_iff,@true_imp_iff⟩
theorem hna : (∀ {α : Type} [inst : BEq α] [ReflBEq α] (a : α),(a == a) = true) ∧ (∀ {α : Type} [inst : BEq α] [LawfulBEq α] (a : α),(a != a) = false) ∧ (∀ {α : Type} [inst : BEq α] [LawfulBEq α] {a b : α},(a == b) = true ↔ a = b) ∧ (∀ {α : Type} [inst : BEq α] [LawfulBEq α] {a b : α},(a != b) = true ↔ a ≠ b) ∧ (∀ {p : Prop} [inst : Decidable p],(decide p = true) = p) ∧ (∀ {p : Prop} {x : Decidable p},decide p = false ↔ ¬p) ∧ (∀ {α : Type} [inst : BEq α] [LawfulBEq α] {a b : α},(a == b) = false ↔ a ≠ b) ∧ (∀ {α : Type} [inst : BEq α] [LawfulBEq α] {a b : α},(a != b) = false ↔ a = b) ∧ (∀ (b : Bool),((!b) = true) = (b = false)):=⟨@beq_self_eq_true,@bne_self_eq_false,@beq_iff_eq,@bne_iff_ne,@decide_eq_true_eq,@decide_eq_false_iff_not,@beq_eq_false_iff_ne,@bne_eq_false_iff_eq,@Bool.not_eq_true'⟩
theorem hnb : (∀ (b : Bool),((!b) = false) = (b = true)) ∧ (∀ (b : Bool),(!!b) = b) ∧ (∀ {p : Prop} [Decidable p],¬¬p ↔ p) ∧ ((!true) = false) ∧ ((!false) = true) ∧ (∀ {a b : Int},¬a < b ↔ b ≤ a) ∧ (∀ {a b : Int},¬a ≤ b ↔ b < a) ∧ ((¬True) = False) ∧ ((¬False) = True):=⟨@Bool.not_eq_false',@Bool.not_not,@Decidable.not_not,@Bool.not_true,@Bool.not_false,@Int.not_lt,@Int.not_le,@not_true_eq_false,@not_false_eq_true⟩
theorem hnc : (∀ (a b : Bool),((a || b) = true) = (a = true ∨ b = true)) ∧ (∀ (a b : Bool),((a && b) = true) = (a = true ∧ b = true)) ∧ (∀ {x y : Bool},(x || y) = false ↔ x = false ∧ y = false):=⟨@Bool.or_eq_true,@Bool.and_eq_true,@Bool.or_eq_false_iff⟩
theorem vsa : (∀ (a : Array UInt8),ByteArray.size { data:=a } = Array.size a) ∧ (∀ {α : Type} {as : List α},Array.size (List.toArray as) = List.length as) ∧ (∀ {α : Type},List.length ([] : List α) = 0) ∧ (∀ {α : Type} {a : α} {as : List α},List.length (a :: as) = List.length as + 1) ∧ (∀ {α : Type} {a : α} {l : List α},(a :: l)[0]? = some a) ∧ (∀ {α : Type} {a : α} {i : Nat} {l : List α},(a :: l)[i + 1]? = l[i]?) ∧ (∀ {α : Type} {i : Nat},([] : List α)[i]? = none) ∧ (∀ {α : Type} {a b : α},Option.getD (some a) b = a) ∧ (∀ {α : Type} {a : α},Option.getD none a = a):=⟨@bsize,@List.size_toArray,@List.length_nil,@List.length_cons,@List.getElem?_cons_zero,@List.getElem?_cons_succ,@List.getElem?_nil,@Option.getD_some,@Option.getD_none⟩
theorem vsb : (∀ {α : Type} {x : Decidable True} (t e : α),(if True then t else e) = t) ∧ (∀ {α : Type} {x : Decidable False} (t e : α),(if False then t else e) = e) ∧ ((!true) = false) ∧ ((!false) = true) ∧ ((false = true) = False) ∧ (∀ {α : Type} {β : Type} {f : α → β} {a : α} {l : List α},List.map f (a :: l) = f a :: List.map f l) ∧ (∀ {α : Type} {β : Type} {f : α → β},List.map f [] = []) ∧ (∀ {α : Type} (as : List α),[] ++ as = as) ∧ (∀ {α : Type} (as : List α),as ++ [] = as):=⟨@if_true,@if_false,@Bool.not_true,@Bool.not_false,@Bool.false_eq_true,@List.map_cons,@List.map_nil,@List.nil_append,@List.append_nil⟩
theorem vsc : (∀ {α : Type} {a : α} {as bs : List α},a :: as ++ bs = a :: (as ++ bs)):=@List.cons_append
class EnT (P : Program) (f : FuncId) : Prop where
 h : Enters P f
class TyT (P : Program) (T : TypeId) (ti : outParam TI) : Prop where
 h : tinfo P T = some ti
class ZoT (P : Program) (T : TypeId) (z : outParam (Option (List PV))) : Prop where
 h : zeroOf P T = z
theorem tyI {P : Program} {T : TypeId} {ti : TI} [i : TyT P T ti] : tinfo P T = some ti:=i.h
theorem zoI {P : Program} {T : TypeId} {z : Option (List PV)} [i : ZoT P T z] : zeroOf P T = z:=i.h
class ZvT (P : Program) (T : TypeId) (z : outParam PV) : Prop where
 h : zvOf P T = some z
theorem zvI {P : Program} {T : TypeId} {z : PV} [i : ZvT P T z] : zvOf P T = some z:=i.h
end Go.Pv
