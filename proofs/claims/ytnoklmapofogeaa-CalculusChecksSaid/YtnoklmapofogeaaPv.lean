/-
  Values seen as data: what a call of the program does is told without memory: a slice that nobody writes any more is a list, one that a call has made itself is a row of its own store.
  This text: the values, how they lie in memory, and what a call and a piece of code do to them.
-/
import Derived.Calls
import Derived.Below
import Derived.KernelRfl
import Derived.WalkKit
namespace Go.Pv
open Go Go.RowKit
set_option linter.unusedVariables false
set_option linter.unusedSimpArgs false

inductive PV where
  | int (k : IntKind) (n : Int)
  | bool (b : Bool)
  | str (s : ByteArray)
  | nilsl
  | list (xs : List (List PV))
  | sl (i off len : Nat)
  | nilptr
  | ptr (i row off : Nat)
  | iptr (cells : List PV)
  | agg (cells : List PV)
  | tuple (vs : List PV)
  | fn (f : Fn) (first captured : List PV)
  | nilfn
  | iface (t : TypeId) (v : PV)
  | niliface
  | nilmap
  | mapv (i : Nat)
  | imap (es : List (PV × PV))
  | clip (z : Nat) (xs : List (List PV))
  | any
  deriving Inhabited

/-- where a row of the store lies: the block, the first cell, cells a place, places -/
structure Loc where
  b : Nat
  o : Nat
  esz : Nat
  n : Nat

abbrev PHeap := Nat → Option Obj
abbrev Sig := Nat → Option Loc
def noSig : Sig := fun _ => none

inductive Rel (pub : PHeap) : Sig → PV → Value → Prop where
  | int {σ k n} : Rel pub σ (.int k n) (.int k n)
  | bool {σ b} : Rel pub σ (.bool b) (.bool b)
  | str {σ s} (h : s.size ≤ maxLen) : Rel pub σ (.str s) (.string s)
  | nilsl {σ} : Rel pub σ .nilsl (.slice none 0 0)
  | list0 {σ a cap} (hc : cap ≤ maxLen) : Rel pub σ (.list []) (.slice a 0 cap)
  | list {σ xs b o cs ty fr esz cap} (hb : pub b = some (.cells cs ty fr)) (hlen : xs.length ≤ cap) (hcap : cap ≤ maxLen)
      (hw : ∀ (r : Nat) (row : List PV), xs[r]? = some row → row.length = esz) (hsz : o + xs.length * esz ≤ cs.size)
      (hr : ∀ (r : Nat) (row : List PV) (j : Nat) (v : PV) (c : Value), xs[r]? = some row → row[j]? = some v → cs[o + r * esz + j]? = some c → Rel pub noSig v c) :
      Rel pub σ (.list xs) (.slice (some ⟨b, o, none⟩) xs.length cap)
  | sl {σ i off len l a cap} (hσ : σ i = some l) (hlen : len ≤ cap) (hcap : cap ≤ maxLen)
      (ha : 0 < cap → a = some ⟨l.b, l.o + off * l.esz, none⟩ ∧ off + cap ≤ l.n) : Rel pub σ (.sl i off len) (.slice a len cap)
  | nilptr {σ} : Rel pub σ .nilptr (.pointer none)
  | ptr {σ i row off l} (hσ : σ i = some l) : Rel pub σ (.ptr i row off) (.pointer (some ⟨l.b, l.o + row * l.esz + off, none⟩))
  | iptr {σ cells b o cs ty fr} (hb : pub b = some (.cells cs ty fr)) (hsz : o + cells.length ≤ cs.size)
      (hr : ∀ (j : Nat) (v : PV) (c : Value), cells[j]? = some v → cs[o + j]? = some c → Rel pub noSig v c) : Rel pub σ (.iptr cells) (.pointer (some ⟨b, o, none⟩))
  | agg {σ cells} {arr : Array Value} (hsz : arr.size = cells.length) (hr : ∀ (j : Nat) (v : PV) (c : Value), cells[j]? = some v → arr[j]? = some c → Rel pub σ v c) : Rel pub σ (.agg cells) (.agg arr)
  | tuple {σ vs} {arr : Array Value} (hsz : arr.size = vs.length) (hr : ∀ (j : Nat) (v : PV) (c : Value), vs[j]? = some v → arr[j]? = some c → Rel pub σ v c) : Rel pub σ (.tuple vs) (.tuple arr)
  | fn {σ f xs ys} {xa ya : Array Value} (hsx : xa.size = xs.length) (hrx : ∀ (j : Nat) (v : PV) (c : Value), xs[j]? = some v → xa[j]? = some c → Rel pub σ v c)
      (hsy : ya.size = ys.length) (hry : ∀ (j : Nat) (v : PV) (c : Value), ys[j]? = some v → ya[j]? = some c → Rel pub σ v c) : Rel pub σ (.fn f xs ys) (.func f xa ya)
  | nilfn {σ} : Rel pub σ .nilfn .nilFunc
  | iface {σ t v c} (h : Rel pub σ v c) : Rel pub σ (.iface t v) (.iface t c)
  | niliface {σ} : Rel pub σ .niliface .nilIface
  | nilmap {σ} : Rel pub σ .nilmap (.map none)
  | mapv {σ i l} (hσ : σ i = some l) : Rel pub σ (.mapv i) (.map (some l.b))
  | imap {σ es b xs clock} (hb : pub b = some (.map xs clock)) (hsz : xs.size = es.length)
      (hk : ∀ (j : Nat) (k v : PV) (e : MapEntry), es[j]? = some (k, v) → xs[j]? = some e → Rel pub noSig k e.key)
      (hv : ∀ (j : Nat) (k v : PV) (e : MapEntry), es[j]? = some (k, v) → xs[j]? = some e → Rel pub noSig v e.val) : Rel pub σ (.imap es) (.map (some b))
  | clip {σ z xs a n} (hw : ∀ row ∈ xs, row.length = z) (h : Rel pub noSig (.list xs) (.slice a n n)) : Rel pub σ (.clip z xs) (.slice a n n)
  | any {σ c} : Rel pub σ .any c

def PHeap.le (p q : PHeap) : Prop := ∀ b o, p b = some o → q b = some o
def Sig.le (p q : Sig) : Prop := ∀ i l, p i = some l → q i = some l
theorem PHeap.le.rfl' {p : PHeap} : p.le p := fun _ _ h => h
theorem Sig.le.rfl' {p : Sig} : p.le p := fun _ _ h => h
theorem PHeap.le.trans {p q r : PHeap} (h : p.le q) (g : q.le r) : p.le r := fun b o e => g b o (h b o e)
theorem Sig.le.trans {p q r : Sig} (h : p.le q) (g : q.le r) : p.le r := fun b o e => g b o (h b o e)
theorem noSig_le (σ : Sig) : noSig.le σ := fun _ _ h => by cases h

theorem Rel.mono {p q : PHeap} (hp : p.le q) {σ : Sig} {v : PV} {c : Value} (h : Rel p σ v c) : ∀ {τ : Sig}, σ.le τ → Rel q τ v c := by
  induction h with
  | int => intros; exact .int
  | bool => intros; exact .bool
  | str h => intros; exact .str h
  | nilsl => intros; exact .nilsl
  | list0 hc => intros; exact .list0 hc
  | list hb hlen hcap hw hsz hr ih => intro τ _; exact .list (hp _ _ hb) hlen hcap hw hsz fun r row j v c a b d => ih r row j v c a b d Sig.le.rfl'
  | sl hσ hlen hcap ha => intro τ hτ; exact .sl (hτ _ _ hσ) hlen hcap ha
  | nilptr => intros; exact .nilptr
  | ptr hσ => intro τ hτ; exact .ptr (hτ _ _ hσ)
  | iptr hb hsz hr ih => intro τ _; exact .iptr (hp _ _ hb) hsz fun j v c a b => ih j v c a b Sig.le.rfl'
  | agg hsz hr ih => intro τ hτ; exact .agg hsz fun j v c a b => ih j v c a b hτ
  | tuple hsz hr ih => intro τ hτ; exact .tuple hsz fun j v c a b => ih j v c a b hτ
  | fn hsx hrx hsy hry ihx ihy => intro τ hτ; exact .fn hsx (fun j v c a b => ihx j v c a b hτ) hsy (fun j v c a b => ihy j v c a b hτ)
  | nilfn => intros; exact .nilfn
  | iface h ih => intro τ hτ; exact .iface (ih hτ)
  | niliface => intros; exact .niliface
  | nilmap => intros; exact .nilmap
  | mapv hσ => intro τ hτ; exact .mapv (hτ _ _ hσ)
  | imap hb hsz hk hv ihk ihv => intro τ _; exact .imap (hp _ _ hb) hsz (fun j k v e a b => ihk j k v e a b Sig.le.rfl') (fun j k v e a b => ihv j k v e a b Sig.le.rfl')
  | clip hw h ih => intro τ _; exact .clip hw (ih Sig.le.rfl')
  | any => intros; exact .any

theorem Rel.up {p : PHeap} {σ τ : Sig} {v : PV} {c : Value} (h : Rel p σ v c) (hτ : σ.le τ) : Rel p τ v c := h.mono PHeap.le.rfl' hτ

def RelA (pub : PHeap) (σ : Sig) (vs : List PV) (arr : Array Value) : Prop :=
  arr.size = vs.length ∧ ∀ (j : Nat) (v : PV) (c : Value), vs[j]? = some v → arr[j]? = some c → Rel pub σ v c

/-- what the store holds -/
inductive PObj where
  | dead
  | rows (esz : Nat) (r : List (List PV))
  | iter (s : ByteArray) (pos : Nat)
  | map (es : List (PV × PV))
  deriving Inhabited
abbrev Store := List PObj

/-- rows of cells, laid one behind the other from cell 'o' on -/
structure RowsIn (Rl : PV → Value → Prop) (rs : List (List PV)) (cs : Array Value) (o esz : Nat) : Prop where
  wide : ∀ (r : Nat) (row : List PV), rs[r]? = some row → row.length = esz
  rel : ∀ (r : Nat) (row : List PV) (j : Nat) (v : PV) (c : Value), rs[r]? = some row → row[j]? = some v → cs[o + r * esz + j]? = some c → Rl v c

def ObjOK (pub : PHeap) (σ : Sig) (w : World) (i : Nat) : PObj → Prop
  | .dead => True
  | .rows z rs => ∃ l, σ i = some l ∧ l.esz = z ∧ rs.length ≤ l.n ∧ (0 < l.n → pub l.b = none ∧ ∃ cs ty, w.heap[l.b]? = some (.cells cs ty (0, 0)) ∧ l.o + l.n * l.esz ≤ cs.size ∧
      RowsIn (Rel pub σ) rs cs l.o l.esz)
  | .iter s pos => ∃ l, σ i = some l ∧ pub l.b = none ∧ l.o = 0 ∧ l.esz = 0 ∧ l.n = 1 ∧ w.heap[l.b]? = some (.stringIter s pos)
  | .map es => ∃ l, σ i = some l ∧ pub l.b = none ∧ l.o = 0 ∧ l.esz = 0 ∧ l.n = 1 ∧ ∃ xs clock, w.heap[l.b]? = some (.map xs clock) ∧ xs.size = es.length ∧
      ∀ (j : Nat) (k v : PV) (e : MapEntry), es[j]? = some (k, v) → xs[j]? = some e → Rel pub σ k e.key ∧ Rel pub σ v e.val

def Alive (s : Store) (σ : Sig) (i : Nat) (l : Loc) : Prop := ∃ o, s[i]? = some o ∧ o ≠ .dead ∧ σ i = some l ∧ 0 < l.n
def dom (s : Store) (σ : Sig) (b : Nat) : Prop := ∃ i l, Alive s σ i l ∧ l.b = b

structure Base (pub : PHeap) (σ : Sig) (s : Store) (w : World) : Prop where
  pubIn : ∀ b o, pub b = some o → w.heap[b]? = some o
  obj : ∀ i o, s[i]? = some o → ObjOK pub σ w i o
  inj : ∀ i j li lj, Alive s σ i li → Alive s σ j lj → li.b = lj.b → i = j
  sig : ∀ i, s.length ≤ i → σ i = none

structure Ctx where
  w : World
  pub : PHeap
  sig : Sig
  dom : Nat → Prop

structure SR (C : Ctx) (pub : PHeap) (σ : Sig) (s : Store) (w : World) : Prop extends Base pub σ s w where
  os : w.os = C.w.os
  tape : w.tape = C.w.tape
  output : w.output = C.w.output
  size : C.w.heap.size ≤ w.heap.size
  frame : ∀ b, b < C.w.heap.size → ¬ C.dom b → w.heap[b]? = C.w.heap[b]? ∧ pub b = C.pub b
  own : ∀ i l, Alive s σ i l → C.dom l.b ∨ C.w.heap.size ≤ l.b
  ple : C.pub.le pub
  sle : C.sig.le σ

theorem SR.start {pub : PHeap} {σ : Sig} {s : Store} {w : World} (h : Base pub σ s w) : SR ⟨w, pub, σ, dom s σ⟩ pub σ s w :=
  { h with ple := PHeap.le.rfl', sle := Sig.le.rfl', os := rfl, tape := rfl, output := rfl, size := Nat.le_refl _, frame := fun _ _ _ => ⟨rfl, rfl⟩, own := fun i l hl => .inl ⟨i, l, hl, rfl⟩ }

theorem SR.trans {C : Ctx} {pub pub' : PHeap} {σ σ' : Sig} {s s' : Store} {w w' : World} (h : SR C pub σ s w) (g : SR ⟨w, pub, σ, dom s σ⟩ pub' σ' s' w') : SR C pub' σ' s' w' :=
  { g.toBase with
    ple := h.ple.trans g.ple
    sle := h.sle.trans g.sle
    os := g.os.trans h.os
    tape := g.tape.trans h.tape
    output := g.output.trans h.output
    size := Nat.le_trans h.size g.size
    frame := fun b hb hd => by
      have hnd : ¬ dom s σ b := by
        rintro ⟨i, l, hl, rfl⟩
        rcases h.own i l hl with h1 | h1
        · exact hd h1
        · omega
      have h1 := g.frame b (Nat.lt_of_lt_of_le hb h.size) hnd
      have h2 := h.frame b hb hd
      exact ⟨h1.1.trans h2.1, h1.2.trans h2.2⟩
    own := fun i l hl => by
      rcases g.own i l hl with ⟨j, lj, hj, e⟩ | h1
      · rw [← e]; exact h.own j lj hj
      · exact .inr (Nat.le_trans h.size h1) }

/-- WHAT A CALL DOES: handed 'args' over the store 's' it returns 'v' and leaves the store 's''. -/
def CallOK (P : Program) (f : FuncId) (args : List PV) (s : Store) (v : PV) (s' : Store) : Prop :=
  ∀ (pub : PHeap) (σ : Sig) (w : World) (cargs : Array Value), Base pub σ s w → RelA pub σ args cargs →
    Calls P f cargs w fun e w' => ∃ cv pub' σ', e = .returned cv ∧ SR ⟨w, pub, σ, dom s σ⟩ pub' σ' s' w' ∧ Rel pub' σ' v cv

abbrev Env := Nat → PV
def Env.upd (e : Env) (d : Option Tmp) (v : PV) : Env := match d with
  | none => e
  | some d => fun t => if t = d then v else e t

structure ER (pub : PHeap) (σ : Sig) (N : Nat) (e : Env) (a : Act) : Prop where
  size : a.tmps.size = N
  defers : a.defers = []
  rel : ∀ t, Rel pub σ (e t) (a.tmps.getD t undef)

theorem ER.mono {pub pub' : PHeap} {σ σ' : Sig} {N : Nat} {e : Env} {a : Act} (h : ER pub σ N e a) (hp : pub.le pub') (hσ : σ.le σ') : ER pub' σ' N e a :=
  ⟨h.size, h.defers, fun t => (h.rel t).mono hp hσ⟩

theorem wp_loop_any {P : Program} {Q : Exit → Act → World → Prop} {a : Act} {w : World} {c : Code} (I : Nat → Act → World → Prop) {n : Nat} (h₀ : I n a w)
    (round : ∀ n a w, I n a w → c.wp P (Exit.then (fun a' w' => ∃ n', n' < n ∧ I n' a' w') Q) a w) : (Code.loop c).wp P Q a w := by
  intro b k cs
  have key : ∀ n a w, I n a w → ∃ e a' w', Q e a' w' ∧ Arrives P (lone (b.at a (.code c :: .inLoop c :: k)) cs w) b k cs e a' w' := by
    intro n
    induction n using Nat.strongRecOn with
    | _ n ih =>
      intro a w hI
      obtain ⟨e, a₁, w₁, hq, harr⟩ := round n a w hI b (.inLoop c :: k) cs
      cases e with
      | normal =>
        obtain ⟨n', hlt, hI₁⟩ := hq
        obtain ⟨e₂, a₂, w₂, hq₂, harr₂⟩ := ih n' hlt a₁ w₁ hI₁
        exact ⟨e₂, a₂, w₂, hq₂, .of_steps (Steps.trans harr (.one step_inLoop)) harr₂⟩
      | exit id => exact ⟨_, a₁, w₁, hq, .pass (x := .inLoop c) rfl (fun _ _ => .inl (by simp)) harr⟩
      | goto l => exact ⟨_, a₁, w₁, hq, .pass (x := .inLoop c) rfl (fun _ _ => .inl (by simp)) harr⟩
      | ret => exact ⟨_, a₁, w₁, hq, .pass (x := .inLoop c) rfl (fun _ _ => .inl (by simp)) harr⟩
      | panic ch => exact ⟨_, a₁, w₁, hq, .pass (x := .inLoop c) rfl (fun _ _ => .inl (by simp)) harr⟩
      | outgrown => exact ⟨_, a₁, w₁, hq, .pass (x := .inLoop c) rfl (fun _ _ => .inl (by simp)) harr⟩
  obtain ⟨e, a', w', hq, harr⟩ := key _ a w h₀
  exact ⟨e, a', w', hq, .of_steps (.one step_loop) harr⟩

abbrev Post := Exit → Env → Store → Prop

/-- A piece of code, begun with the slots 'e' and the store 's', ends as 'K' says. -/
def Ev (P : Program) (N m : Nat) (c : Code) (e : Env) (s : Store) (K : Post) : Prop :=
  ∀ C pub σ a w, (∀ i, m ≤ i → C.sig i = none) → SR C pub σ s w → ER pub σ N e a → c.wp P (fun x a' w' => ∃ e' s' pub' σ', K x e' s' ∧ SR C pub' σ' s' w' ∧ ER pub' σ' N e' a') a w

section rules
variable {P : Program} {N m : Nat} {e : Env} {s : Store} {K : Post}

theorem Ev.mono {c : Code} {K' : Post} (h : Ev P N m c e s K) (hk : ∀ x e s, K x e s → K' x e s) : Ev P N m c e s K' :=
  fun C pub σ a w hm hs he => wp_mono (h C pub σ a w hm hs he) fun _ _ _ ⟨e', s', pub', σ', hK, r⟩ => ⟨e', s', pub', σ', hk _ _ _ hK, r⟩

theorem Ev.skip (h : K .normal e s) : Ev P N m .skip e s K :=
  fun _ pub σ _ _ _ hs he => wp_skip ⟨e, s, pub, σ, h, hs, he⟩
theorem Ev.exit {id : Nat} (h : K (.exit id) e s) : Ev P N m (.exit id) e s K :=
  fun _ pub σ _ _ _ hs he => wp_exit ⟨e, s, pub, σ, h, hs, he⟩
theorem Ev.ret (h : K .ret e s) : Ev P N m .ret e s K :=
  fun _ pub σ _ _ _ hs he => wp_ret ⟨e, s, pub, σ, h, hs, he⟩
theorem Ev.label {l : Nat} (h : K .normal e s) : Ev P N m (.label l) e s K :=
  fun _ pub σ _ _ _ hs he => wp_label ⟨e, s, pub, σ, h, hs, he⟩

/-- What follows a piece that has ended as it should. -/
def thenK (P : Program) (N m : Nat) (c : Code) (K : Post) : Post
  | .normal, e, s => Ev P N m c e s K
  | x, e, s => K x e s

theorem Ev.seq {a b : Code} (h : Ev P N m a e s (thenK P N m b K)) : Ev P N m (.seq a b) e s K := by
  intro C pub σ act w hm hs he
  refine wp_seq (wp_mono (h C pub σ act w hm hs he) ?_)
  rintro x a' w' ⟨e', s', pub', σ', hK, hs', he'⟩
  cases x with
  | normal =>
    refine wp_mono (hK C pub' σ' a' w' hm hs' he') ?_
    rintro x a₂ w₂ ⟨e₂, s₂, pub₂, σ₂, hK₂, hs₂, he₂⟩
    exact ⟨e₂, s₂, pub₂, σ₂, hK₂, hs₂, he₂⟩
  | exit id => exact ⟨e', s', pub', σ', hK, hs', he'⟩
  | goto l => exact ⟨e', s', pub', σ', hK, hs', he'⟩
  | ret => exact ⟨e', s', pub', σ', hK, hs', he'⟩
  | panic ch => exact ⟨e', s', pub', σ', hK, hs', he'⟩
  | outgrown => exact ⟨e', s', pub', σ', hK, hs', he'⟩

/-- a constant of the code as a value -/
def ofConst : Nat → Value → PV
  | _, .int k n => .int k n
  | _, .bool b => .bool b
  | _, .string s => if s.size < 1000000 then .str s else .any
  | _, .slice none 0 0 => .nilsl
  | _, .pointer none => .nilptr
  | _, .nilFunc => .nilfn
  | _, .nilIface => .niliface
  | _, .map none => .nilmap
  | n + 1, .agg cs => .agg (cs.toList.map (ofConst n))
  | n + 1, .tuple cs => .tuple (cs.toList.map (ofConst n))
  | n + 1, .iface t v => .iface t (ofConst n v)
  | _, _ => .any

theorem ofConst_rel (pub : PHeap) (σ : Sig) (n : Nat) (v : Value) : Rel pub σ (ofConst n v) v := by
  induction n generalizing v with
  | zero =>
    unfold ofConst
    split <;> first | exact .int | exact .bool | exact .nilsl | exact .nilptr | exact .nilfn | exact .niliface | exact .nilmap | exact .any | (split <;> first | (rename_i h; exact .str (by simp [maxLen]; omega)) | exact .any) | (rename_i h; cases h)
  | succ n ih =>
    unfold ofConst
    split <;> first | exact .int | exact .bool | exact .nilsl | exact .nilptr | exact .nilfn | exact .niliface | exact .nilmap | exact .any | (split <;> first | (rename_i h; exact .str (by simp [maxLen]; omega)) | exact .any) | skip
    · rename_i h; cases h
      refine .agg (by simp) fun j v c hv hc => ?_
      simp only [List.getElem?_map, Array.getElem?_toList, hc, Option.map_some, Option.some.injEq] at hv
      subst hv; exact ih _
    · rename_i h; cases h
      refine .tuple (by simp) fun j v c hv hc => ?_
      simp only [List.getElem?_map, Array.getElem?_toList, hc, Option.map_some, Option.some.injEq] at hv
      subst hv; exact ih _
    · rename_i h; cases h
      exact .iface (ih _)

def evO (e : Env) : Operand → PV
  | .tmp t => e t
  | .const v => ofConst 3 v
  | .global _ => .any
  | .func f => .fn (.func f) [] []

theorem evO_rel {pub : PHeap} {σ : Sig} {a : Act} (he : ER pub σ N e a) (x : Operand) : Rel pub σ (evO e x) (a.eval x) := by
  cases x with
  | tmp t => exact he.rel t
  | const v => exact ofConst_rel _ _ _ _
  | global g => exact .any
  | func f => exact .fn rfl (fun j v c h => by simp at h) rfl (fun j v c h => by simp at h)

theorem Ev.cond {c : Operand} {x y : Code} {t : Bool} (hc : evO e c = .bool t) (h : Ev P N m (if t then x else y) e s K) : Ev P N m (.cond c x y) e s K := by
  intro C pub σ a w hm hs he
  have hr := evO_rel he c
  rw [hc] at hr
  generalize hv : a.eval c = cv at hr
  cases hr
  exact wp_cond hv (h C pub σ a w hm hs he)

def blockK (id : Nat) (K : Post) : Post
  | .exit i, e, s => if i = id then K .normal e s else K (.exit i) e s
  | x, e, s => K x e s

theorem Ev.block {id : Nat} {c : Code} (h : Ev P N m c e s (blockK id K)) : Ev P N m (.block id c) e s K := by
  intro C pub σ a w hm hs he
  refine wp_block (wp_mono (h C pub σ a w hm hs he) ?_)
  rintro x a' w' ⟨e', s', pub', σ', hK, r⟩
  cases x with
  | exit i =>
    by_cases hi : i = id
    · simp only [blockK, hi, if_true] at hK
      simp only [Exit.inBlock, hi, if_true]
      exact ⟨e', s', pub', σ', hK, r⟩
    · simp only [blockK, hi, if_false] at hK
      simp only [Exit.inBlock, hi, if_false]
      exact ⟨e', s', pub', σ', hK, r⟩
  | normal => exact ⟨e', s', pub', σ', hK, r⟩
  | goto l => exact ⟨e', s', pub', σ', hK, r⟩
  | ret => exact ⟨e', s', pub', σ', hK, r⟩
  | panic ch => exact ⟨e', s', pub', σ', hK, r⟩
  | outgrown => exact ⟨e', s', pub', σ', hK, r⟩

/-- One look at slots and store is another, weaker one. -/
def View (m : Nat) (e : Env) (s : Store) (e' : Env) (s' : Store) : Prop :=
  ∀ C pub σ a w N, (∀ i, m ≤ i → C.sig i = none) → SR C pub σ s w → ER pub σ N e a → ∃ pub' σ', SR C pub' σ' s' w ∧ ER pub' σ' N e' a
theorem View.refl (e : Env) (s : Store) : View m e s e s := fun _ pub σ _ _ _ _ hs he => ⟨pub, σ, hs, he⟩
theorem View.trans {e₁ e₂ e₃ : Env} {s₁ s₂ s₃ : Store} (h : View m e₁ s₁ e₂ s₂) (g : View m e₂ s₂ e₃ s₃) : View m e₁ s₁ e₃ s₃ := by
  intro C pub σ a w N hm hs he
  obtain ⟨p, t, h1, h2⟩ := h C pub σ a w N hm hs he
  exact g C p t a w N hm h1 h2
theorem Ev.view {c : Code} {e' : Env} {s' : Store} (v : View m e s e' s') (h : Ev P N m c e' s' K) : Ev P N m c e s K := by
  intro C pub σ a w hm hs he
  obtain ⟨p, t, h1, h2⟩ := v C pub σ a w N hm hs he
  exact h C p t a w hm h1 h2

/-- A loop: its states 'x', each with a look at the slots and the store at the head of a round. -/
theorem Ev.loop {c : Code} {X : Type} (E : X → Env) (S : X → Store) (I : X → Prop) (μ : X → Nat) (x₀ : X) (h₀ : I x₀) (v₀ : View m e s (E x₀) (S x₀))
    (round : ∀ x, I x → Ev P N m c (E x) (S x) fun y e' s' => match y with
      | .normal => ∃ x', I x' ∧ μ x' < μ x ∧ View m e' s' (E x') (S x')
      | y => K y e' s') : Ev P N m (.loop c) e s K := by
  intro C pub σ a w hm hs he
  refine wp_loop_any (fun n a w => ∃ x pub σ, I x ∧ μ x = n ∧ SR C pub σ (S x) w ∧ ER pub σ N (E x) a) (n := μ x₀) ?_ ?_
  · obtain ⟨p, t, h1, h2⟩ := v₀ C pub σ a w N hm hs he
    exact ⟨x₀, p, t, h₀, rfl, h1, h2⟩
  · rintro n a w ⟨x, p, t, hI, rfl, hs, he⟩
    refine wp_mono (round x hI C p t a w hm hs he) ?_
    rintro y a' w' ⟨e', s', pub', σ', hK, hs', he'⟩
    cases y with
    | normal =>
      obtain ⟨x', hI', hlt, v⟩ := hK
      obtain ⟨p2, t2, h1, h2⟩ := v C pub' σ' a' w' N hm hs' he'
      exact ⟨μ x', hlt, x', p2, t2, hI', rfl, h1, h2⟩
    | exit id => exact ⟨e', s', pub', σ', hK, hs', he'⟩
    | goto l => exact ⟨e', s', pub', σ', hK, hs', he'⟩
    | ret => exact ⟨e', s', pub', σ', hK, hs', he'⟩
    | panic ch => exact ⟨e', s', pub', σ', hK, hs', he'⟩
    | outgrown => exact ⟨e', s', pub', σ', hK, hs', he'⟩

end rules
end Go.Pv
