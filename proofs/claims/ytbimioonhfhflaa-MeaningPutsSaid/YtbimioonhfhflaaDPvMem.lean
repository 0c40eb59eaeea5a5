import Derived.Calls
import Derived.Below
import Derived.KernelRfl
import Derived.WalkKit
set_option linter.unusedVariables false
set_option linter.unusedSimpArgs false
namespace Go.Pv
open Go Go.RowKit
inductive PV where
 | int (k : IntKind) (n : Int)
 | bool (b : Bool)
 | str (s : ByteArray)
 | nilsl
 | list (xs : List (List PV))
 | sl (i off len : Nat)
 | nilptr
 | ptr (i row off : Nat)
 | iptr (cells : List PV)
 | agg (cells : List PV)
 | tuple (vs : List PV)
 | fn (f : Fn) (first captured : List PV)
 | nilfn
 | iface (t : TypeId) (v : PV)
 | niliface
 | nilmap
 | mapv (i : Nat)
 | imap (es : List (PV × PV))
 | clip (z : Nat) (xs : List (List PV))
 | any
 deriving Inhabited
structure Loc where
 b : Nat
 o : Nat
 esz : Nat
 n : Nat
abbrev PHeap:=Nat → Option Obj
abbrev Sig:=Nat → Option Loc
def noSig : Sig:=fun _=>none
inductive Rel (pub : PHeap) : Sig → PV → Value → Prop where
 | int {σ k n} : Rel pub σ (.int k n) (.int k n)
 | bool {σ b} : Rel pub σ (.bool b) (.bool b)
 | str {σ s} (h : s.size ≤ maxLen) : Rel pub σ (.str s) (.string s)
 | nilsl {σ} : Rel pub σ .nilsl (.slice none 0 0)
 | list0 {σ a cap} (hc : cap ≤ maxLen) : Rel pub σ (.list []) (.slice a 0 cap)
 | list {σ xs b o cs ty fr esz cap} (hb : pub b = some (.cells cs ty fr)) (hlen : xs.length ≤ cap) (hcap : cap ≤ maxLen)
   (hw : ∀ (r : Nat) (row : List PV),xs[r]? = some row → row.length = esz) (hsz : o + xs.length * esz ≤ cs.size)
   (hr : ∀ (r : Nat) (row : List PV) (j : Nat) (v : PV) (c : Value),xs[r]? = some row → row[j]? = some v → cs[o + r * esz + j]? = some c → Rel pub noSig v c) :
   Rel pub σ (.list xs) (.slice (some ⟨b,o,none⟩) xs.length cap)
 | sl {σ i off len l a cap} (hσ : σ i = some l) (hlen : len ≤ cap) (hcap : cap ≤ maxLen)
   (ha : 0 < cap → a = some ⟨l.b,l.o + off * l.esz,none⟩ ∧ off + cap ≤ l.n) : Rel pub σ (.sl i off len) (.slice a len cap)
 | nilptr {σ} : Rel pub σ .nilptr (.pointer none)
 | ptr {σ i row off l} (hσ : σ i = some l) : Rel pub σ (.ptr i row off) (.pointer (some ⟨l.b,l.o + row * l.esz + off,none⟩))
 | iptr {σ cells b o cs ty fr} (hb : pub b = some (.cells cs ty fr)) (hsz : o + cells.length ≤ cs.size)
   (hr : ∀ (j : Nat) (v : PV) (c : Value),cells[j]? = some v → cs[o + j]? = some c → Rel pub noSig v c) : Rel pub σ (.iptr cells) (.pointer (some ⟨b,o,none⟩))
 | agg {σ cells} {arr : Array Value} (hsz : arr.size = cells.length) (hr : ∀ (j : Nat) (v : PV) (c : Value),cells[j]? = some v → arr[j]? = some c → Rel pub σ v c) : Rel pub σ (.agg cells) (.agg arr)
 | tuple {σ vs} {arr : Array Value} (hsz : arr.size = vs.length) (hr : ∀ (j : Nat) (v : PV) (c : Value),vs[j]? = some v → arr[j]? = some c → Rel pub σ v c) : Rel pub σ (.tuple vs) (.tuple arr)
 | fn {σ f xs ys} {xa ya : Array Value} (hsx : xa.size = xs.length) (hrx : ∀ (j : Nat) (v : PV) (c : Value),xs[j]? = some v → xa[j]? = some c → Rel pub σ v c)
   (hsy : ya.size = ys.length) (hry : ∀ (j : Nat) (v : PV) (c : Value),ys[j]? = some v → ya[j]? = some c → Rel pub σ v c) : Rel pub σ (.fn f xs ys) (.func f xa ya)
 | nilfn {σ} : Rel pub σ .nilfn .nilFunc
 | iface {σ t v c} (h : Rel pub σ v c) : Rel pub σ (.iface t v) (.iface t c)
 | niliface {σ} : Rel pub σ .niliface .nilIface
 | nilmap {σ} : Rel pub σ .nilmap (.map none)
 | mapv {σ i l} (hσ : σ i = some l) : Rel pub σ (.mapv i) (.map (some l.b))
 | imap {σ es b xs clock} (hb : pub b = some (.map xs clock)) (hsz : xs.size = es.length)
   (hk : ∀ (j : Nat) (k v : PV) (e : MapEntry),es[j]? = some (k,v) → xs[j]? = some e → Rel pub noSig k e.key)
   (hv : ∀ (j : Nat) (k v : PV) (e : MapEntry),es[j]? = some (k,v) → xs[j]? = some e → Rel pub noSig v e.val) : Rel pub σ (.imap es) (.map (some b))
 | clip {σ z xs a n} (hw : ∀ row ∈ xs,row.length = z) (h : Rel pub noSig (.list xs) (.slice a n n)) : Rel pub σ (.clip z xs) (.slice a n n)
 | any {σ c} : Rel pub σ .any c
def PHeap.le (p q : PHeap) : Prop:=∀ b o,p b = some o → q b = some o
def Sig.le (p q : Sig) : Prop:=∀ i l,p i = some l → q i = some l
theorem PHeap.le.rfl' {p : PHeap} : p.le p:=fun _ _ h=>h
theorem Sig.le.rfl' {p : Sig} : p.le p:=fun _ _ h=>h
theorem PHeap.le.trans {p q r : PHeap} (h : p.le q) (g : q.le r) : p.le r:=fun b o e=>g b o (h b o e)
theorem Sig.le.trans {p q r : Sig} (h : p.le q) (g : q.le r) : p.le r:=fun b o e=>g b o (h b o e)
theorem noSig_le (σ : Sig) : noSig.le σ:=fun _ _ h=>by cases h
theorem Rel.mono {p q : PHeap} (hp : p.le q) {σ : Sig} {v : PV} {c : Value} (h : Rel p σ v c) : ∀ {τ : Sig},σ.le τ → Rel q τ v c:=by
 induction h with
 | int=>intros;exact .int
 | bool=>intros;exact .bool
 | str h=>intros;exact .str h
 | nilsl=>intros;exact .nilsl
 | list0 hc=>intros;exact .list0 hc
 | list hb hlen hcap hw hsz hr ih=>intro τ _;exact .list (hp _ _ hb) hlen hcap hw hsz fun r row j v c a b d=>ih r row j v c a b d Sig.le.rfl'
 | sl hσ hlen hcap ha=>intro τ hτ;exact .sl (hτ _ _ hσ) hlen hcap ha
 | nilptr=>intros;exact .nilptr
 | ptr hσ=>intro τ hτ;exact .ptr (hτ _ _ hσ)
 | iptr hb hsz hr ih=>intro τ _;exact .iptr (hp _ _ hb) hsz fun j v c a b=>ih j v c a b Sig.le.rfl'
 | agg hsz hr ih=>intro τ hτ;exact .agg hsz fun j v c a b=>ih j v c a b hτ
 | tuple hsz hr ih=>intro τ hτ;exact .tuple hsz fun j v c a b=>ih j v c a b hτ
 | fn hsx hrx hsy hry ihx ihy=>intro τ hτ;exact .fn hsx (fun j v c a b=>ihx j v c a b hτ) hsy (fun j v c a b=>ihy j v c a b hτ)
 | nilfn=>intros;exact .nilfn
 | iface h ih=>intro τ hτ;exact .iface (ih hτ)
 | niliface=>intros;exact .niliface
 | nilmap=>intros;exact .nilmap
 | mapv hσ=>intro τ hτ;exact .mapv (hτ _ _ hσ)
 | imap hb hsz hk hv ihk ihv=>intro τ _;exact .imap (hp _ _ hb) hsz (fun j k v e a b=>ihk j k v e a b Sig.le.rfl') (fun j k v e a b=>ihv j k v e a b Sig.le.rfl')
 | clip hw h ih=>intro τ _;exact .clip hw (ih Sig.le.rfl')
 | any=>intros;exact .any
theorem Rel.up {p : PHeap} {σ τ : Sig} {v : PV} {c : Value} (h : Rel p σ v c) (hτ : σ.le τ) : Rel p τ v c:=h.mono PHeap.le.rfl' hτ
def RelA (pub : PHeap) (σ : Sig) (vs : List PV) (arr : Array Value) : Prop:=
 arr.size = vs.length ∧ ∀ (j : Nat) (v : PV) (c : Value),vs[j]? = some v → arr[j]? = some c → Rel pub σ v c
inductive PObj where
 | dead
 | rows (esz : Nat) (r : List (List PV))
 | iter (s : ByteArray) (pos : Nat)
 | map (es : List (PV × PV))
 deriving Inhabited
abbrev Store:=List PObj
structure RowsIn (Rl : PV → Value → Prop) (rs : List (List PV)) (cs : Array Value) (o esz : Nat) : Prop where
 wide : ∀ (r : Nat) (row : List PV),rs[r]? = some row → row.length = esz
 rel : ∀ (r : Nat) (row : List PV) (j : Nat) (v : PV) (c : Value),rs[r]? = some row → row[j]? = some v → cs[o + r * esz + j]? = some c → Rl v c
def ObjOK (pub : PHeap) (σ : Sig) (w : World) (i : Nat) : PObj → Prop
 | .dead=>True
 | .rows z rs => ∃ l,σ i = some l ∧ l.esz = z ∧ rs.length ≤ l.n ∧ (0 < l.n → pub l.b = none ∧ ∃ cs ty,w.heap[l.b]? = some (.cells cs ty (0,0)) ∧ l.o + l.n * l.esz ≤ cs.size ∧
   RowsIn (Rel pub σ) rs cs l.o l.esz)
 | .iter s pos=>∃ l,σ i = some l ∧ pub l.b = none ∧ l.o = 0 ∧ l.esz = 0 ∧ l.n = 1 ∧ w.heap[l.b]? = some (.stringIter s pos)
 | .map es => ∃ l,σ i = some l ∧ pub l.b = none ∧ l.o = 0 ∧ l.esz = 0 ∧ l.n = 1 ∧ ∃ xs clock,w.heap[l.b]? = some (.map xs clock) ∧ xs.size = es.length ∧
   ∀ (j : Nat) (k v : PV) (e : MapEntry),es[j]? = some (k,v) → xs[j]? = some e → Rel pub σ k e.key ∧ Rel pub σ v e.val
def Alive (s : Store) (σ : Sig) (i : Nat) (l : Loc) : Prop:=∃ o,s[i]? = some o ∧ o ≠ .dead ∧ σ i = some l ∧ 0 < l.n
def dom (s : Store) (σ : Sig) (b : Nat) : Prop:=∃ i l,Alive s σ i l ∧ l.b = b
structure Base (pub : PHeap) (σ : Sig) (s : Store) (w : World) : Prop where
 pubIn : ∀ b o,pub b = some o → w.heap[b]? = some o
 obj : ∀ i o,s[i]? = some o → ObjOK pub σ w i o
 inj : ∀ i j li lj,Alive s σ i li → Alive s σ j lj → li.b = lj.b → i = j
 sig : ∀ i,s.length ≤ i → σ i = none
structure Ctx where
 w : World
 pub : PHeap
 sig : Sig
 dom : Nat → Prop
structure SR (C : Ctx) (pub : PHeap) (σ : Sig) (s : Store) (w : World) : Prop extends Base pub σ s w where
 os : w.os = C.w.os
 tape : w.tape = C.w.tape
 output : w.output = C.w.output
 size : C.w.heap.size ≤ w.heap.size
 frame : ∀ b,b < C.w.heap.size → ¬ C.dom b → w.heap[b]? = C.w.heap[b]? ∧ pub b = C.pub b
 own : ∀ i l,Alive s σ i l → C.dom l.b ∨ C.w.heap.size ≤ l.b
 ple : C.pub.le pub
 sle : C.sig.le σ
theorem SR.start {pub : PHeap} {σ : Sig} {s : Store} {w : World} (h : Base pub σ s w) : SR ⟨w,pub,σ,dom s σ⟩ pub σ s w:=
 { h with ple:=PHeap.le.rfl',sle:=Sig.le.rfl',os:=rfl,tape:=rfl,output:=rfl,size:=Nat.le_refl _,frame:=fun _ _ _=>⟨rfl,rfl⟩,own:=fun i l hl=>.inl ⟨i,l,hl,rfl⟩ }
theorem SR.trans {C : Ctx} {pub pub' : PHeap} {σ σ' : Sig} {s s' : Store} {w w' : World} (h : SR C pub σ s w) (g : SR ⟨w,pub,σ,dom s σ⟩ pub' σ' s' w') : SR C pub' σ' s' w':=
 { g.toBase with
  ple:=h.ple.trans g.ple
  sle:=h.sle.trans g.sle
  os:=g.os.trans h.os
  tape:=g.tape.trans h.tape
  output:=g.output.trans h.output
  size:=Nat.le_trans h.size g.size
  frame:=fun b hb hd=>by
   have hnd : ¬ dom s σ b:=by
    rintro ⟨i,l,hl,rfl⟩
    rcases h.own i l hl with h1 | h1
    ·exact hd h1
    ·omega
   have h1:=g.frame b (Nat.lt_of_lt_of_le hb h.size) hnd
   have h2:=h.frame b hb hd
   exact ⟨h1.1.trans h2.1,h1.2.trans h2.2⟩
  own:=fun i l hl=>by
   rcases g.own i l hl with ⟨j,lj,hj,e⟩ | h1
   ·rw [← e];exact h.own j lj hj
   ·exact .inr (Nat.le_trans h.size h1) }
def CallOK (P : Program) (f : FuncId) (args : List PV) (s : Store) (v : PV) (s' : Store) : Prop:=
 ∀ (pub : PHeap) (σ : Sig) (w : World) (cargs : Array Value),Base pub σ s w → RelA pub σ args cargs →
  Calls P f cargs w fun e w'=>∃ cv pub' σ',e = .returned cv ∧ SR ⟨w,pub,σ,dom s σ⟩ pub' σ' s' w' ∧ Rel pub' σ' v cv
abbrev Env:=Nat → PV
def Env.upd (e : Env) (d : Option Tmp) (v : PV) : Env:=match d with
 | none=>e
 | some d=>fun t=>if t = d then v else e t
structure FrN where
 n : Nat
 D : List Deferred:=[]
 K : List (Nat × Value):=[]
instance : Coe FrN Nat:=⟨FrN.n⟩
instance : Membership Nat FrN:=⟨fun N t=>t < N.n ∧ ∀ v,(t,v) ∉ N.K⟩
abbrev frn (n : Nat) : FrN:=⟨n,[],[]⟩
theorem frn_mem {n t : Nat} (h : t < n) : t ∈ frn n:=⟨h,fun v hv=>by cases hv⟩
theorem frl {n : Nat} {d : Option Tmp} (h : ∀ t,d = some t → t < n) : ∀ t,d = some t → t ∈ frn n:=fun t ht=>frn_mem (h t ht)
structure ER (pub : PHeap) (σ : Sig) (N : FrN) (e : Env) (a : Act) : Prop where
 size : a.tmps.size = N
 defers : a.defers = N.D
 kept : ∀ t v,(t,v) ∈ N.K → a.tmps.getD t undef = v
 rel : ∀ t,Rel pub σ (e t) (a.tmps.getD t undef)
theorem ER.mono {pub pub' : PHeap} {σ σ' : Sig} {N : FrN} {e : Env} {a : Act} (h : ER pub σ N e a) (hp : pub.le pub') (hσ : σ.le σ') : ER pub' σ' N e a:=
 ⟨h.size,h.defers,h.kept,fun t=>(h.rel t).mono hp hσ⟩
theorem wp_loop_any {P : Program} {Q : Exit → Act → World → Prop} {a : Act} {w : World} {c : Code} (I : Nat → Act → World → Prop) {n : Nat} (h₀ : I n a w)
  (round : ∀ n a w,I n a w → c.wp P (Exit.then (fun a' w'=>∃ n',n' < n ∧ I n' a' w') Q) a w) : (Code.loop c).wp P Q a w:=by
 intro b k cs
 have key : ∀ n a w,I n a w → ∃ e a' w',Q e a' w' ∧ Arrives P (lone (b.at a (.code c :: .inLoop c :: k)) cs w) b k cs e a' w':=by
  intro n
  induction n using Nat.strongRecOn with
  | _ n ih=>
   intro a w hI
   obtain ⟨e,a₁,w₁,hq,harr⟩:=round n a w hI b (.inLoop c :: k) cs
   cases e with
   | normal=>
    obtain ⟨n',hlt,hI₁⟩:=hq
    obtain ⟨e₂,a₂,w₂,hq₂,harr₂⟩:=ih n' hlt a₁ w₁ hI₁
    exact ⟨e₂,a₂,w₂,hq₂,.of_steps (Steps.trans harr (.one step_inLoop)) harr₂⟩
   | exit id=>exact ⟨_,a₁,w₁,hq,.pass (x:=.inLoop c) rfl (fun _ _=>.inl (by simp)) harr⟩
   | goto l=>exact ⟨_,a₁,w₁,hq,.pass (x:=.inLoop c) rfl (fun _ _=>.inl (by simp)) harr⟩
   | ret=>exact ⟨_,a₁,w₁,hq,.pass (x:=.inLoop c) rfl (fun _ _=>.inl (by simp)) harr⟩
   | panic ch=>exact ⟨_,a₁,w₁,hq,.pass (x:=.inLoop c) rfl (fun _ _=>.inl (by simp)) harr⟩
   | outgrown=>exact ⟨_,a₁,w₁,hq,.pass (x:=.inLoop c) rfl (fun _ _=>.inl (by simp)) harr⟩
 obtain ⟨e,a',w',hq,harr⟩:=key _ a w h₀
 exact ⟨e,a',w',hq,.of_steps (.one step_loop) harr⟩
abbrev Post:=Exit → Env → Store → Prop
def Ev (P : Program) (N : FrN) (m : Nat) (c : Code) (e : Env) (s : Store) (K : Post) : Prop:=
 ∀ C pub σ a w,(∀ i,m ≤ i → C.sig i = none) → SR C pub σ s w → ER pub σ N e a → c.wp P (fun x a' w'=>∃ e' s' pub' σ',K x e' s' ∧ SR C pub' σ' s' w' ∧ ER pub' σ' N e' a') a w
section rules
variable {P : Program} {N : FrN} {m : Nat} {e : Env} {s : Store} {K : Post}
theorem Ev.mono {c : Code} {K' : Post} (h : Ev P N m c e s K) (hk : ∀ x e s,K x e s → K' x e s) : Ev P N m c e s K':=
 fun C pub σ a w hm hs he=>wp_mono (h C pub σ a w hm hs he) fun _ _ _ ⟨e',s',pub',σ',hK,r⟩=>⟨e',s',pub',σ',hk _ _ _ hK,r⟩
theorem Ev.skip (h : K .normal e s) : Ev P N m .skip e s K:=
 fun _ pub σ _ _ _ hs he=>wp_skip ⟨e,s,pub,σ,h,hs,he⟩
theorem Ev.exit {id : Nat} (h : K (.exit id) e s) : Ev P N m (.exit id) e s K:=
 fun _ pub σ _ _ _ hs he=>wp_exit ⟨e,s,pub,σ,h,hs,he⟩
theorem Ev.ret (h : K .ret e s) : Ev P N m .ret e s K:=
 fun _ pub σ _ _ _ hs he=>wp_ret ⟨e,s,pub,σ,h,hs,he⟩
theorem Ev.label {l : Nat} (h : K .normal e s) : Ev P N m (.label l) e s K:=
 fun _ pub σ _ _ _ hs he=>wp_label ⟨e,s,pub,σ,h,hs,he⟩
def thenK (P : Program) (N : FrN) (m : Nat) (c : Code) (K : Post) : Post
 | .normal,e,s=>Ev P N m c e s K
 | x,e,s=>K x e s
theorem Ev.seq {a b : Code} (h : Ev P N m a e s (thenK P N m b K)) : Ev P N m (.seq a b) e s K:=by
 intro C pub σ act w hm hs he
 refine wp_seq (wp_mono (h C pub σ act w hm hs he) ?_)
 rintro x a' w' ⟨e',s',pub',σ',hK,hs',he'⟩
 cases x with
 | normal=>
  refine wp_mono (hK C pub' σ' a' w' hm hs' he') ?_
  rintro x a₂ w₂ ⟨e₂,s₂,pub₂,σ₂,hK₂,hs₂,he₂⟩
  exact ⟨e₂,s₂,pub₂,σ₂,hK₂,hs₂,he₂⟩
 | exit id=>exact ⟨e',s',pub',σ',hK,hs',he'⟩
 | goto l=>exact ⟨e',s',pub',σ',hK,hs',he'⟩
 | ret=>exact ⟨e',s',pub',σ',hK,hs',he'⟩
 | panic ch=>exact ⟨e',s',pub',σ',hK,hs',he'⟩
 | outgrown=>exact ⟨e',s',pub',σ',hK,hs',he'⟩
def ofConst : Nat → Value → PV
 | _,.int k n=>.int k n
 | _,.bool b=>.bool b
 | _,.string s=>if s.size < 1000000 then .str s else .any
 | _,.slice none 0 0=>.nilsl
 | _,.pointer none=>.nilptr
 | _,.nilFunc=>.nilfn
 | _,.nilIface=>.niliface
 | _,.map none=>.nilmap
 | n + 1,.agg cs=>.agg (cs.toList.map (ofConst n))
 | n + 1,.tuple cs=>.tuple (cs.toList.map (ofConst n))
 | n + 1,.iface t v=>.iface t (ofConst n v)
 | _,_=>.any
theorem ofConst_rel (pub : PHeap) (σ : Sig) (n : Nat) (v : Value) : Rel pub σ (ofConst n v) v:=by
 induction n generalizing v with
 | zero=>
  unfold ofConst
  split <;> first | exact .int | exact .bool | exact .nilsl | exact .nilptr | exact .nilfn | exact .niliface | exact .nilmap | exact .any | (split <;> first | (rename_i h;exact .str (by simp [maxLen];omega)) | exact .any) | (rename_i h;cases h)
 | succ n ih=>
  unfold ofConst
  split <;> first | exact .int | exact .bool | exact .nilsl | exact .nilptr | exact .nilfn | exact .niliface | exact .nilmap | exact .any | (split <;> first | (rename_i h;exact .str (by simp [maxLen];omega)) | exact .any) | skip
  ·rename_i h; cases h
   refine .agg (by simp) fun j v c hv hc=>?_
   simp only [List.getElem?_map,Array.getElem?_toList,hc,Option.map_some,Option.some.injEq] at hv
   subst hv;exact ih _
  ·rename_i h; cases h
   refine .tuple (by simp) fun j v c hv hc=>?_
   simp only [List.getElem?_map,Array.getElem?_toList,hc,Option.map_some,Option.some.injEq] at hv
   subst hv;exact ih _
  ·rename_i h; cases h
   exact .iface (ih _)
def evO (e : Env) : Operand → PV
 | .tmp t=>e t
 | .const v=>ofConst 3 v
 | .global _=>.any
 | .func f=>.fn (.func f) [] []
theorem evO_rel {pub : PHeap} {σ : Sig} {a : Act} (he : ER pub σ N e a) (x : Operand) : Rel pub σ (evO e x) (a.eval x):=by
 cases x with
 | tmp t=>exact he.rel t
 | const v=>exact ofConst_rel _ _ _ _
 | global g=>exact .any
 | func f=>exact .fn rfl (fun j v c h=>by simp at h) rfl (fun j v c h=>by simp at h)
theorem Ev.cond {c : Operand} {x y : Code} {t : Bool} (hc : evO e c = .bool t) (h : Ev P N m (if t then x else y) e s K) : Ev P N m (.cond c x y) e s K:=by
 intro C pub σ a w hm hs he
 have hr:=evO_rel he c
 rw [hc] at hr
 generalize hv : a.eval c = cv at hr
 cases hr
 exact wp_cond hv (h C pub σ a w hm hs he)
def blockK (id : Nat) (K : Post) : Post
 | .exit i,e,s=>if i = id then K .normal e s else K (.exit i) e s
 | x,e,s=>K x e s
theorem Ev.block {id : Nat} {c : Code} (h : Ev P N m c e s (blockK id K)) : Ev P N m (.block id c) e s K:=by
 intro C pub σ a w hm hs he
 refine wp_block (wp_mono (h C pub σ a w hm hs he) ?_)
 rintro x a' w' ⟨e',s',pub',σ',hK,r⟩
 cases x with
 | exit i=>
  by_cases hi : i = id
  ·simp only [blockK,hi,if_true] at hK
   simp only [Exit.inBlock,hi,if_true]
   exact ⟨e',s',pub',σ',hK,r⟩
  ·simp only [blockK,hi,if_false] at hK
   simp only [Exit.inBlock,hi,if_false]
   exact ⟨e',s',pub',σ',hK,r⟩
 | normal=>exact ⟨e',s',pub',σ',hK,r⟩
 | goto l=>exact ⟨e',s',pub',σ',hK,r⟩
 | ret=>exact ⟨e',s',pub',σ',hK,r⟩
 | panic ch=>exact ⟨e',s',pub',σ',hK,r⟩
 | outgrown=>exact ⟨e',s',pub',σ',hK,r⟩
def View (m : Nat) (e : Env) (s : Store) (e' : Env) (s' : Store) : Prop:=
 ∀ C pub σ a w N,(∀ i,m ≤ i → C.sig i = none) → SR C pub σ s w → ER pub σ N e a → ∃ pub' σ',SR C pub' σ' s' w ∧ ER pub' σ' N e' a
theorem View.refl (e : Env) (s : Store) : View m e s e s:=fun _ pub σ _ _ _ _ hs he=>⟨pub,σ,hs,he⟩
theorem View.trans {e₁ e₂ e₃ : Env} {s₁ s₂ s₃ : Store} (h : View m e₁ s₁ e₂ s₂) (g : View m e₂ s₂ e₃ s₃) : View m e₁ s₁ e₃ s₃:=by
 intro C pub σ a w N hm hs he
 obtain ⟨p,t,h1,h2⟩:=h C pub σ a w N hm hs he
 exact g C p t a w N hm h1 h2
theorem Ev.view {c : Code} {e' : Env} {s' : Store} (v : View m e s e' s') (h : Ev P N m c e' s' K) : Ev P N m c e s K:=by
 intro C pub σ a w hm hs he
 obtain ⟨p,t,h1,h2⟩:=v C pub σ a w N hm hs he
 exact h C p t a w hm h1 h2
theorem Ev.loop {c : Code} {X : Type} (E : X → Env) (S : X → Store) (I : X → Prop) (μ : X → Nat) (x₀ : X) (h₀ : I x₀) (v₀ : View m e s (E x₀) (S x₀))
  (round : ∀ x,I x → Ev P N m c (E x) (S x) fun y e' s'=>match y with
   | .normal=>∃ x',I x' ∧ μ x' < μ x ∧ View m e' s' (E x') (S x')
   | y=>K y e' s') : Ev P N m (.loop c) e s K:=by
 intro C pub σ a w hm hs he
 refine wp_loop_any (fun n a w=>∃ x pub σ,I x ∧ μ x = n ∧ SR C pub σ (S x) w ∧ ER pub σ N (E x) a) (n:=μ x₀) ?_ ?_
 ·obtain ⟨p,t,h1,h2⟩ := v₀ C pub σ a w N hm hs he
  exact ⟨x₀,p,t,h₀,rfl,h1,h2⟩
 ·rintro n a w ⟨x,p,t,hI,rfl,hs,he⟩
  refine wp_mono (round x hI C p t a w hm hs he) ?_
  rintro y a' w' ⟨e',s',pub',σ',hK,hs',he'⟩
  cases y with
  | normal=>
   obtain ⟨x',hI',hlt,v⟩:=hK
   obtain ⟨p2,t2,h1,h2⟩:=v C pub' σ' a' w' N hm hs' he'
   exact ⟨μ x',hlt,x',p2,t2,hI',rfl,h1,h2⟩
  | exit id=>exact ⟨e',s',pub',σ',hK,hs',he'⟩
  | goto l=>exact ⟨e',s',pub',σ',hK,hs',he'⟩
  | ret=>exact ⟨e',s',pub',σ',hK,hs',he'⟩
  | panic ch=>exact ⟨e',s',pub',σ',hK,hs',he'⟩
  | outgrown=>exact ⟨e',s',pub',σ',hK,hs',he'⟩
end rules
end Go.Pv
namespace Go.Pv
open Go Go.RowKit
theorem ObjOK.mono {p q : PHeap} {σ τ : Sig} {w w' : World} {i : Nat} {o : PObj} (h : ObjOK p σ w i o) (hp : p.le q) (hσ : σ.le τ)
  (hb : ∀ l,o ≠ .dead → σ i = some l → 0 < l.n → w'.heap[l.b]? = w.heap[l.b]? ∧ q l.b = p l.b) : ObjOK q τ w' i o:=by
 cases o with
 | dead=>trivial
 | rows z rs=>
  obtain ⟨l,h1,hz,h2,h3⟩:=h
  refine ⟨l,hσ _ _ h1,hz,h2,fun hn=>?_⟩
  obtain ⟨h4,cs,ty,h5,h6,h7⟩:=h3 hn
  have hx:=hb l (by simp) h1 hn
  exact ⟨hx.2.trans h4,cs,ty,hx.1.trans h5,h6,h7.wide,fun r row j v c a b d=>(h7.rel r row j v c a b d).mono hp hσ⟩
 | iter s pos=>
  obtain ⟨l,h1,h2,h3,h4,h5,h6⟩:=h
  have hx:=hb l (by simp) h1 (by omega)
  exact ⟨l,hσ _ _ h1,hx.2.trans h2,h3,h4,h5,hx.1.trans h6⟩
 | map es=>
  obtain ⟨l,h1,h2,h3,h4,h5,xs,clock,h6,h7,h8⟩:=h
  have hx:=hb l (by simp) h1 (by omega)
  exact ⟨l,hσ _ _ h1,hx.2.trans h2,h3,h4,h5,xs,clock,hx.1.trans h6,h7,fun j k v e a b=>⟨(h8 j k v e a b).1.mono hp hσ,(h8 j k v e a b).2.mono hp hσ⟩⟩
theorem RowsIn.up {p : PHeap} {σ τ : Sig} {rs : List (List PV)} {cs : Array Value} {o esz : Nat} (h : RowsIn (Rel p σ) rs cs o esz) (hσ : σ.le τ) : RowsIn (Rel p τ) rs cs o esz:=
 ⟨h.wide,fun r row j v c a b d=>(h.rel r row j v c a b d).up hσ⟩
theorem ObjOK.alive {p : PHeap} {σ : Sig} {w : World} {s : Store} {i : Nat} {l : Loc} (h : ∀ i o,s[i]? = some o → ObjOK p σ w i o) (ha : Alive s σ i l) : p l.b = none ∧ l.b < w.heap.size:=by
 obtain ⟨o,h1,h2,h3,h4⟩:=ha
 have hx:=h i o h1
 cases o with
 | dead=>exact absurd rfl h2
 | rows z rs=>
  obtain ⟨l',e,_,_,h5⟩:=hx
  rw [h3] at e;cases e
  obtain ⟨h6,cs,ty,h7,_⟩:=h5 h4
  exact ⟨h6,by rcases Nat.lt_or_ge l.b w.heap.size with h | h;exact h;simp [Array.getElem?_eq_none h] at h7⟩
 | iter t pos=>
  obtain ⟨l',e,h5,_,_,_,h6⟩:=hx
  rw [h3] at e;cases e
  exact ⟨h5,by rcases Nat.lt_or_ge l.b w.heap.size with h | h;exact h;simp [Array.getElem?_eq_none h] at h6⟩
 | map es=>
  obtain ⟨l',e,h5,_,_,_,xs,clock,h6,_⟩:=hx
  rw [h3] at e;cases e
  exact ⟨h5,by rcases Nat.lt_or_ge l.b w.heap.size with h | h;exact h;simp [Array.getElem?_eq_none h] at h6⟩
theorem Base.pub_size {p : PHeap} {σ : Sig} {s : Store} {w : World} (h : Base p σ s w) {b : Nat} (hb : w.heap.size ≤ b) : p b = none:=by
 cases e : p b with
 | none=>rfl
 | some o=>have:=h.pubIn b o e;simp [Array.getElem?_eq_none hb] at this
def Sig.add (σ : Sig) (i : Nat) (l : Loc) : Sig:=fun j=>if j = i then some l else σ j
theorem Sig.add_same (σ : Sig) (i : Nat) (l : Loc) : σ.add i l i = some l:=by simp [Sig.add]
theorem Base.le_add {p : PHeap} {σ : Sig} {s : Store} {w : World} (h : Base p σ s w) (l : Loc) : σ.le (σ.add s.length l):=by
 intro j l' hj
 by_cases e : j = s.length
 ·subst e;rw [h.sig _ (Nat.le_refl _)] at hj;cases hj
 ·simp [Sig.add,e,hj]
theorem SR.drawn {C : Ctx} {p : PHeap} {σ : Sig} {s : Store} {w w' : World} (h : SR C p σ s w) (e1 : w'.heap = w.heap) (e2 : w'.os = w.os) (e3 : w'.tape = w.tape) (e4 : w'.output = w.output) : SR C p σ s w' where
 pubIn:=by rw [e1];exact h.pubIn
 obj:=fun i o hi=>(h.obj i o hi).mono PHeap.le.rfl' Sig.le.rfl' (fun l _ _ _=>⟨by rw [e1],rfl⟩)
 inj:=h.inj
 sig:=h.sig
 os:=e2.trans h.os
 tape:=e3.trans h.tape
 output:=e4.trans h.output
 size:=by rw [e1];exact h.size
 frame:=by rw [e1];exact h.frame
 own:=h.own
 ple:=h.ple
 sle:=h.sle
theorem SR.push {C : Ctx} {p : PHeap} {σ : Sig} {s : Store} {w : World} (h : SR C p σ s w) (o : Obj) (obj : PObj) (l : Loc) (hl : l.b = w.heap.size)
  (hobj : ObjOK p (σ.add s.length l) { w with heap:=w.heap.push o } s.length obj) : SR C p (σ.add s.length l) (s ++ [obj]) { w with heap:=w.heap.push o }:=by
 have hle:=h.toBase.le_add l
 have hnew : ∀ b,b < w.heap.size → (w.heap.push o)[b]? = w.heap[b]?:=fun b hb=>by
  rw [Array.getElem?_push];rw [if_neg (by omega)]
 have halive : ∀ i l',Alive (s ++ [obj]) (σ.add s.length l) i l' → (i < s.length ∧ Alive s σ i l') ∨ (i = s.length ∧ l' = l):=by
  rintro i l' ⟨o',h1,h2,h3,h4⟩
  rcases Nat.lt_trichotomy i s.length with hi | hi | hi
  ·rw [List.getElem?_append_left hi] at h1
   exact .inl ⟨hi,o',h1,h2,by simpa [Sig.add,Nat.ne_of_lt hi] using h3,h4⟩
  ·subst hi;rw [Sig.add_same] at h3;cases h3;exact .inr ⟨rfl,rfl⟩
  ·rw [List.getElem?_eq_none (by simp;omega)] at h1;cases h1
 have hlt : ∀ i l',Alive s σ i l' → l'.b < w.heap.size:=fun i l' ha=>(ObjOK.alive h.obj ha).2
 exact {
  pubIn:=fun b o' hb=>by
   have:=h.pubIn b o' hb
   show (w.heap.push o)[b]? = _
   rw [hnew b (by rcases Nat.lt_or_ge b w.heap.size with h | h;exact h;simp [Array.getElem?_eq_none h] at this)];exact this
  obj:=fun i o' hi=>by
   rcases Nat.lt_trichotomy i s.length with hlt' | rfl | hgt
   ·rw [List.getElem?_append_left hlt'] at hi
    refine (h.obj i o' hi).mono PHeap.le.rfl' hle fun l' hd hσ hn=>⟨hnew _ (hlt i l' ⟨o',hi,hd,hσ,hn⟩),rfl⟩
   ·simp at hi;subst hi;exact hobj
   ·rw [List.getElem?_eq_none (by simp;omega)] at hi;cases hi
  inj:=fun i j li lj hi hj e=>by
   rcases halive i li hi with ⟨h1,h2⟩ | ⟨h1,h2⟩ <;> rcases halive j lj hj with ⟨h3,h4⟩ | ⟨h3,h4⟩
   ·exact h.inj i j li lj h2 h4 e
   ·have:=hlt i li h2;subst h4;omega
   ·have:=hlt j lj h4;subst h2;omega
   ·omega
  sig:=fun i hi=>by
   have : i ≠ s.length:=by simp at hi;omega
   simp only [Sig.add,this,if_false]
   exact h.sig i (by simp at hi;omega)
  os:=h.os
  tape:=h.tape
  output:=h.output
  size:=by have:=h.size;simp;omega
  frame:=fun b hb hd=>by
   have h1:=h.frame b hb hd
   exact ⟨(hnew b (Nat.lt_of_lt_of_le hb h.size)).trans h1.1,h1.2⟩
  own:=fun i l' hi=>by
   rcases halive i l' hi with ⟨h1,h2⟩ | ⟨h1,h2⟩
   ·exact h.own i l' h2
   ·subst h2;rw [hl];exact .inr h.size
  ple:=h.ple
  sle:=h.sle.trans hle }
theorem SR.write {C : Ctx} {p : PHeap} {σ : Sig} {s : Store} {w : World} (h : SR C p σ s w) {i : Nat} {o : PObj} {l : Loc} (hi : s[i]? = some o) (hd : o ≠ .dead) (hσ : σ i = some l) (hn : 0 < l.n)
  (o' : PObj) (b' : Obj) (hd' : o' ≠ .dead) (hobj : ObjOK p σ { w with heap:=w.heap.setIfInBounds l.b b' } i o') : SR C p σ (s.set i o') { w with heap:=w.heap.setIfInBounds l.b b' }:=by
 have hal : Alive s σ i l:=⟨o,hi,hd,hσ,hn⟩
 have hx:=ObjOK.alive h.obj hal
 have hlt : i < s.length:=by rcases Nat.lt_or_ge i s.length with h | h;exact h;simp [List.getElem?_eq_none h] at hi
 have hsame : ∀ b,b ≠ l.b → (w.heap.setIfInBounds l.b b')[b]? = w.heap[b]?:=fun b hb=>by
  rw [Array.getElem?_setIfInBounds];rw [if_neg (by omega)]
 have halive : ∀ j lj,Alive (s.set i o') σ j lj → Alive s σ j lj:=by
  rintro j lj ⟨oj,h1,h2,h3,h4⟩
  by_cases e : j = i
  ·subst e;exact ⟨o,hi,hd,h3,h4⟩
  ·rw [List.getElem?_set_ne (by omega)] at h1;exact ⟨oj,h1,h2,h3,h4⟩
 exact {
  pubIn:=fun b o₁ hb=>by
   refine (hsame b ?_).trans (h.pubIn b o₁ hb)
   rintro rfl;rw [hx.1] at hb;cases hb
  obj:=fun j oj hj=>by
   by_cases e : j = i
   ·subst e;rw [List.getElem?_set_self hlt] at hj;cases hj;exact hobj
   ·rw [List.getElem?_set_ne (by omega)] at hj
    refine (h.obj j oj hj).mono PHeap.le.rfl' Sig.le.rfl' fun l' hdj hσj hnj=>⟨hsame _ fun eb=>e (h.inj j i l' l ⟨oj,hj,hdj,hσj,hnj⟩ hal eb),rfl⟩
  inj:=fun a b la lb ha hb e=>h.inj a b la lb (halive a la ha) (halive b lb hb) e
  sig:=fun j hj=>h.sig j (by simpa using hj)
  os:=h.os
  tape:=h.tape
  output:=h.output
  size:=by have:=h.size;simpa using this
  frame:=fun b hb hdm=>by
   have h1:=h.frame b hb hdm
   refine ⟨(hsame b ?_).trans h1.1,h1.2⟩
   rintro rfl
   rcases h.own i l hal with h2 | h2
   ·exact hdm h2
   ·omega
  own:=fun j lj hj=>h.own j lj (halive j lj hj)
  ple:=h.ple
  sle:=h.sle }
theorem SR.drop {C : Ctx} {p : PHeap} {σ : Sig} {s : Store} {w : World} (h : SR C p σ s w) (i : Nat) : SR C p σ (s.set i .dead) w:=by
 have halive : ∀ j lj,Alive (s.set i .dead) σ j lj → Alive s σ j lj:=by
  rintro j lj ⟨oj,h1,h2,h3,h4⟩
  by_cases e : j = i
  ·subst e
   by_cases hlt : j < s.length
   ·rw [List.getElem?_set_self hlt] at h1;cases h1;exact absurd rfl h2
   ·rw [List.getElem?_eq_none (by simp;omega)] at h1;cases h1
  ·rw [List.getElem?_set_ne (by omega)] at h1;exact ⟨oj,h1,h2,h3,h4⟩
 exact {
  pubIn:=h.pubIn
  obj:=fun j oj hj=>by
   by_cases e : j = i
   ·subst e
    by_cases hlt : j < s.length
    ·rw [List.getElem?_set_self hlt] at hj;cases hj;trivial
    ·rw [List.getElem?_eq_none (by simp;omega)] at hj;cases hj
   ·rw [List.getElem?_set_ne (by omega)] at hj;exact h.obj j oj hj
  inj:=fun a b la lb ha hb e=>h.inj a b la lb (halive a la ha) (halive b lb hb) e
  sig:=fun j hj=>h.sig j (by simpa using hj)
  os:=h.os
  tape:=h.tape
  output:=h.output
  size:=h.size
  frame:=h.frame
  own:=fun j lj hj=>h.own j lj (halive j lj hj)
  ple:=h.ple
  sle:=h.sle }
theorem SR.rehome {C : Ctx} {p : PHeap} {σ : Sig} {s : Store} {w : World} (h : SR C p σ s w) (i : Nat) (o : PObj) (l l' : Loc) (hi : s[i]? = some o) (hd : o ≠ .dead) (hσ : σ i = some l) (hn : 0 < l.n) (hb : l'.b = l.b)
  (obj : PObj) (hobj : ObjOK p (σ.add s.length l') w s.length obj) : SR C p (σ.add s.length l') (s.set i .dead ++ [obj]) w:=by
 have hle:=h.toBase.le_add l'
 have hal : Alive s σ i l:=⟨o,hi,hd,hσ,hn⟩
 have hlt : i < s.length:=by rcases Nat.lt_or_ge i s.length with h | h;exact h;simp [List.getElem?_eq_none h] at hi
 have halive : ∀ j lj,Alive (s.set i .dead ++ [obj]) (σ.add s.length l') j lj → (j ≠ i ∧ j < s.length ∧ Alive s σ j lj) ∨ (j = s.length ∧ lj = l'):=by
  rintro j lj ⟨oj,h1,h2,h3,h4⟩
  rcases Nat.lt_trichotomy j s.length with hj | hj | hj
  ·rw [List.getElem?_append_left (by simpa using hj)] at h1
   by_cases e : j = i
   ·subst e;rw [List.getElem?_set_self hlt] at h1;cases h1;exact absurd rfl h2
   ·rw [List.getElem?_set_ne (by omega)] at h1
    exact .inl ⟨e,hj,oj,h1,h2,by simpa [Sig.add,Nat.ne_of_lt hj] using h3,h4⟩
  ·subst hj;rw [Sig.add_same] at h3;cases h3;exact .inr ⟨rfl,rfl⟩
  ·rw [List.getElem?_eq_none (by simp;omega)] at h1;cases h1
 exact {
  pubIn:=h.pubIn
  obj:=fun j oj hj=>by
   rcases Nat.lt_trichotomy j s.length with hj' | rfl | hgt
   ·rw [List.getElem?_append_left (by simpa using hj')] at hj
    by_cases e : j = i
    ·subst e;rw [List.getElem?_set_self hlt] at hj;cases hj;trivial
    ·rw [List.getElem?_set_ne (by omega)] at hj
     exact (h.obj j oj hj).mono PHeap.le.rfl' hle fun _ _ _ _=>⟨rfl,rfl⟩
   ·rw [List.getElem?_append_right (by simp)] at hj;simp at hj;subst hj;exact hobj
   ·rw [List.getElem?_eq_none (by simp;omega)] at hj;cases hj
  inj:=fun a b la lb ha hb' e=>by
   rcases halive a la ha with ⟨h1,h2,h3⟩ | ⟨h1,h2⟩ <;> rcases halive b lb hb' with ⟨h4,h5,h6⟩ | ⟨h4,h5⟩
   ·exact h.inj a b la lb h3 h6 e
   ·subst h5;exact absurd (h.inj a i la l h3 hal (e.trans hb)) h1
   ·subst h2;exact absurd (h.inj b i lb l h6 hal (e.symm.trans hb)) h4
   ·omega
  sig:=fun j hj=>by
   have : j ≠ s.length:=by simp at hj;omega
   simp only [Sig.add,this,if_false]
   exact h.sig j (by simp at hj;omega)
  os:=h.os
  tape:=h.tape
  output:=h.output
  size:=h.size
  frame:=h.frame
  own:=fun j lj hj=>by
   rcases halive j lj hj with ⟨h1,h2,h3⟩ | ⟨h1,h2⟩
   ·exact h.own j lj h3
   ·subst h2;rw [hb];exact h.own i l hal
  ple:=h.ple
  sle:=h.sle.trans hle }
end Go.Pv
