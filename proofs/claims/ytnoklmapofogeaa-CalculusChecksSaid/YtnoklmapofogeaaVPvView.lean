/-
  Values seen as data, the eleventh text: the look at slots and store at the head of a loop.
-/
import Derived.Test.YtnoklmapofogeaaVPvFun
namespace Go.Pv
open Go Go.RowKit
set_option linter.unusedVariables false
set_option linter.unusedSimpArgs false

/-- the new names of the objects: at place i the old name of the object that is now i -/
inductive Ren (ρ : List Nat) : PV → PV → Prop where
  | int {k n} : Ren ρ (.int k n) (.int k n)
  | bool {b} : Ren ρ (.bool b) (.bool b)
  | str {t} : Ren ρ (.str t) (.str t)
  | nilsl : Ren ρ .nilsl .nilsl
  | list {xs} : Ren ρ (.list xs) (.list xs)
  | nilptr : Ren ρ .nilptr .nilptr
  | iptr {xs} : Ren ρ (.iptr xs) (.iptr xs)
  | nilfn : Ren ρ .nilfn .nilfn
  | niliface : Ren ρ .niliface .niliface
  | nilmap : Ren ρ .nilmap .nilmap
  | mapv {i j} (h : ρ[i]? = some j) : Ren ρ (.mapv i) (.mapv j)
  | imap {es} : Ren ρ (.imap es) (.imap es)
  | clip {z xs} : Ren ρ (.clip z xs) (.clip z xs)
  | sl {i j off len} (h : ρ[i]? = some j) : Ren ρ (.sl i off len) (.sl j off len)
  | ptr {i j r off} (h : ρ[i]? = some j) : Ren ρ (.ptr i r off) (.ptr j r off)
  | agg {xs ys} (hl : xs.length = ys.length) (h : ∀ (k : Nat) (x y : PV), xs[k]? = some x → ys[k]? = some y → Ren ρ x y) : Ren ρ (.agg xs) (.agg ys)
  | tuple {xs ys} (hl : xs.length = ys.length) (h : ∀ (k : Nat) (x y : PV), xs[k]? = some x → ys[k]? = some y → Ren ρ x y) : Ren ρ (.tuple xs) (.tuple ys)
  | fn {f xs ys xs' ys'} (hl : xs.length = ys.length) (h : ∀ (k : Nat) (x y : PV), xs[k]? = some x → ys[k]? = some y → Ren ρ x y)
      (hl' : xs'.length = ys'.length) (h' : ∀ (k : Nat) (x y : PV), xs'[k]? = some x → ys'[k]? = some y → Ren ρ x y) : Ren ρ (.fn f xs xs') (.fn f ys ys')
  | iface {t x y} (h : Ren ρ x y) : Ren ρ (.iface t x) (.iface t y)
  | any {y} : Ren ρ .any y

def Sig.ren (σ : Sig) (ρ : List Nat) : Sig := fun i => (ρ[i]?).bind σ

theorem Ren.rel {pub : PHeap} {σ : Sig} {ρ : List Nat} {v u : PV} (h : Ren ρ v u) : ∀ {c : Value}, Rel pub σ u c → Rel pub (σ.ren ρ) v c := by
  induction h with
  | int => intro c hr; cases hr; exact .int
  | bool => intro c hr; cases hr; exact .bool
  | str => intro c hr; cases hr; exact .str ‹_›
  | nilsl => intro c hr; cases hr; exact .nilsl
  | list => intro c hr; cases hr <;> constructor <;> assumption
  | nilptr => intro c hr; cases hr; exact .nilptr
  | iptr => intro c hr; cases hr; constructor <;> assumption
  | nilfn => intro c hr; cases hr; exact .nilfn
  | niliface => intro c hr; cases hr; exact .niliface
  | nilmap => intro c hr; cases hr; exact .nilmap
  | mapv h => intro c hr; cases hr with | mapv hσ => exact .mapv (by simp [Sig.ren, h, hσ])
  | imap => intro c hr; cases hr; constructor <;> assumption
  | clip => intro c hr; cases hr with | clip hw h => exact .clip hw h
  | sl h =>
    intro c hr
    cases hr with
    | sl hσ h1 h2 h3 => exact .sl (by simp [Sig.ren, h, hσ]) h1 h2 h3
  | ptr h =>
    intro c hr
    cases hr with
    | ptr hσ => exact .ptr (by simp [Sig.ren, h, hσ])
  | agg hl h ih =>
    intro c hr
    cases hr with
    | agg hsz hr =>
      refine .agg (by omega) fun j v c hv hc => ?_
      have hj := lt_of_getElem? hv
      exact ih j v _ hv (List.getElem?_eq_getElem (by omega)) (hr j _ c (List.getElem?_eq_getElem (by omega)) hc)
  | tuple hl h ih =>
    intro c hr
    cases hr with
    | tuple hsz hr =>
      refine .tuple (by omega) fun j v c hv hc => ?_
      have hj := lt_of_getElem? hv
      exact ih j v _ hv (List.getElem?_eq_getElem (by omega)) (hr j _ c (List.getElem?_eq_getElem (by omega)) hc)
  | fn hl h hl' h' ih ih' =>
    intro c hr
    cases hr with
    | fn hsx hrx hsy hry =>
      refine .fn (by omega) (fun j v c hv hc => ?_) (by omega) (fun j v c hv hc => ?_)
      · have hj := lt_of_getElem? hv
        exact ih j v _ hv (List.getElem?_eq_getElem (by omega)) (hrx j _ c (List.getElem?_eq_getElem (by omega)) hc)
      · have hj := lt_of_getElem? hv
        exact ih' j v _ hv (List.getElem?_eq_getElem (by omega)) (hry j _ c (List.getElem?_eq_getElem (by omega)) hc)
  | iface h ih => intro c hr; cases hr with | iface h => exact .iface (ih h)
  | any => intro c hr; exact .any

inductive RenObj (ρ : List Nat) : PObj → PObj → Prop where
  | dead {o} : RenObj ρ .dead o
  | iter {t pos} : RenObj ρ (.iter t pos) (.iter t pos)
  | rows {z rs rs'} (hl : rs.length ≤ rs'.length) (h : ∀ (r : Nat) (row row' : List PV), rs[r]? = some row → rs'[r]? = some row' → row.length = row'.length ∧ ∀ (k : Nat) (x y : PV), row[k]? = some x → row'[k]? = some y → Ren ρ x y) :
      RenObj ρ (.rows z rs) (.rows z rs')
  | same {z rs} (h : ∀ row ∈ rs, ∀ x ∈ row, Ren ρ x x) : RenObj ρ (.rows z rs) (.rows z rs)
  | map {es es'} (hl : es.length = es'.length) (h : ∀ (j : Nat) (p p' : PV × PV), es[j]? = some p → es'[j]? = some p' → Ren ρ p.1 p'.1 ∧ Ren ρ p.2 p'.2) : RenObj ρ (.map es) (.map es')

theorem RenObj.ok {pub : PHeap} {σ : Sig} {w : World} {ρ : List Nat} {i j : Nat} {o o' : PObj} (h : RenObj ρ o' o) (hj : ρ[i]? = some j) (ho : ObjOK pub σ w j o) : ObjOK pub (σ.ren ρ) w i o' := by
  have hσ : ∀ l, σ j = some l → σ.ren ρ i = some l := fun l hl => by simp [Sig.ren, hj, hl]
  cases h with
  | dead => trivial
  | iter => obtain ⟨l, h1, r⟩ := ho; exact ⟨l, hσ l h1, r⟩
  | map hl h =>
    obtain ⟨l, h1, h2, h3, h4, h5, xs, clock, h6, h7, h8⟩ := ho
    refine ⟨l, hσ l h1, h2, h3, h4, h5, xs, clock, h6, h7.trans hl.symm, fun j k v e a b => ?_⟩
    have hlt := lt_of_getElem? a
    rename_i es es'
    have h9 : es'[j]? = some (es'[j]'(by omega)) := List.getElem?_eq_getElem _
    have h10 := h j _ _ a h9
    have h11 := h8 j _ _ e h9 b
    exact ⟨h10.1.rel h11.1, h10.2.rel h11.2⟩
  | rows hl h =>
    rename_i z rs rs'
    obtain ⟨l, h1, h2, h3, h4⟩ := ho
    refine ⟨l, hσ l h1, h2, by omega, fun hn => ?_⟩
    obtain ⟨h5, cs, ty, h6, h7, h8⟩ := h4 hn
    refine ⟨h5, cs, ty, h6, h7, fun r row hr => ?_, fun r row k v c hr hk hc => ?_⟩
    · have hlt := lt_of_getElem? hr
      have h9 : rs'[r]? = some (rs'[r]'(by omega)) := List.getElem?_eq_getElem _
      rw [(h r row _ hr h9).1]; exact h8.wide r _ h9
    · have hlt := lt_of_getElem? hr
      have h9 : rs'[r]? = some (rs'[r]'(by omega)) := List.getElem?_eq_getElem _
      have hkl := lt_of_getElem? hk
      have h10 := h r row _ hr h9
      have h11 : (rs'[r]'(by omega))[k]? = some ((rs'[r]'(by omega))[k]'(by omega)) := List.getElem?_eq_getElem _
      exact (h10.2 k v _ hk h11).rel (h8.rel r _ k _ c h9 h11 hc)
  | same h =>
    rename_i z rs
    obtain ⟨l, h1, h2, h3, h4⟩ := ho
    refine ⟨l, hσ l h1, h2, h3, fun hn => ?_⟩
    obtain ⟨h5, cs, ty, h6, h7, h8⟩ := h4 hn
    exact ⟨h5, cs, ty, h6, h7, h8.wide, fun r row k v c hr hk hc => (h row (List.mem_of_getElem? hr) v (List.mem_of_getElem? hk)).rel (h8.rel r row k v c hr hk hc)⟩

section
variable {m : Nat} {e : Env} {s s' : Store}

theorem envOf_ren {ρ : List Nat} (l : List (Nat × PV)) (h : ∀ p ∈ l, Ren ρ p.2 (e p.1)) (t : Nat) : Ren ρ (envOf l t) (e t) := by
  induction l with
  | nil => exact .any
  | cons p l ih =>
    obtain ⟨n, v⟩ := p
    unfold envOf
    split
    · rename_i hn; subst hn; exact h (t, v) (by simp)
    · exact ih fun q hq => h q (by simp [hq])

/-- slots and store, their objects named anew -/
theorem View.norm (ρ : List Nat) (hm : ∀ i, i < m → ρ[i]? = some i) (hnd : ρ.Nodup) (hlen : s'.length = ρ.length) (hobj : ∀ (i : Nat) (o' : PObj), s'[i]? = some o' → ∃ j o, ρ[i]? = some j ∧ s[j]? = some o ∧ RenObj ρ o' o)
    (l : List (Nat × PV)) (he : ∀ p ∈ l, Ren ρ p.2 (e p.1)) : View m e s (envOf l) s' := by
  intro C pub σ a w N hC hs her
  have halive : ∀ i li, Alive s' (σ.ren ρ) i li → ∃ j, ρ[i]? = some j ∧ Alive s σ j li := by
    rintro i li ⟨o', h1, h2, h3, h4⟩
    obtain ⟨j, o, h5, h6, h7⟩ := hobj i o' h1
    refine ⟨j, h5, o, h6, ?_, by simpa [Sig.ren, h5] using h3, h4⟩
    rintro rfl; cases h7; exact h2 rfl
  refine ⟨pub, σ.ren ρ, ?_, ⟨her.size, her.defers, fun t => (envOf_ren l he t).rel (her.rel t)⟩⟩
  exact {
    pubIn := hs.pubIn
    obj := fun i o' hi => by
      obtain ⟨j, o, h1, h2, h3⟩ := hobj i o' hi
      exact h3.ok h1 (hs.obj j o h2)
    inj := fun i j li lj hi hj eb => by
      obtain ⟨i', h1, h2⟩ := halive i li hi
      obtain ⟨j', h3, h4⟩ := halive j lj hj
      have := hs.inj i' j' li lj h2 h4 eb
      subst this
      exact (List.getElem?_inj (lt_of_getElem? h1) hnd).1 (h1.trans h3.symm)
    sig := fun i hi => by simp [Sig.ren, List.getElem?_eq_none (show ρ.length ≤ i by omega)]
    os := hs.os, tape := hs.tape, output := hs.output, size := hs.size
    frame := hs.frame
    own := fun i li hi => by obtain ⟨j, _, h2⟩ := halive i li hi; exact hs.own j li h2
    ple := hs.ple
    sle := fun i l hl => by
      have him : i < m := by
        rcases Nat.lt_or_ge i m with h | h
        · exact h
        · rw [hC i h] at hl; cases hl
      simp [Sig.ren, hm i him, hs.sle i l hl] }

/-- cell by cell -/
def RenL (ρ : List Nat) : List PV → List PV → Prop
  | [], [] => True
  | x :: xs, y :: ys => Ren ρ x y ∧ RenL ρ xs ys
  | _, _ => False
theorem RenL.get {ρ : List Nat} : ∀ {xs ys : List PV}, RenL ρ xs ys → xs.length = ys.length ∧ ∀ (k : Nat) (x y : PV), xs[k]? = some x → ys[k]? = some y → Ren ρ x y := by
  intro xs
  induction xs with
  | nil => intro ys h; cases ys with | nil => exact ⟨rfl, fun k x y h => by simp at h⟩ | cons => exact h.elim
  | cons a as ih =>
    intro ys h
    cases ys with
    | nil => exact h.elim
    | cons b bs =>
      obtain ⟨h1, h2⟩ := h
      obtain ⟨h3, h4⟩ := ih h2
      refine ⟨by simp [h3], fun k x y hx hy => ?_⟩
      cases k with
      | zero => simp at hx hy; subst hx hy; exact h1
      | succ k => exact h4 k x y (by simpa using hx) (by simpa using hy)
theorem RenL.same {ρ : List Nat} {xs : List PV} (h : ∀ x ∈ xs, Ren ρ x x) : RenL ρ xs xs := by
  induction xs with
  | nil => trivial
  | cons a as ih => exact ⟨h a (by simp), ih fun x hx => h x (by simp [hx])⟩
def RenRows (ρ : List Nat) (rs rs' : List (List PV)) : Prop := rs.length ≤ rs'.length ∧ ∀ (r : Nat) (row row' : List PV), rs[r]? = some row → rs'[r]? = some row' → RenL ρ row row'
theorem renRows_nil {ρ : List Nat} {rs : List (List PV)} : RenRows ρ [] rs := ⟨by simp, fun r row row' h => by simp at h⟩
theorem renRows_cons {ρ : List Nat} {a b : List PV} {as bs : List (List PV)} (h : RenL ρ a b) (g : RenRows ρ as bs) : RenRows ρ (a :: as) (b :: bs) := by
  refine ⟨by have := g.1; simp; omega, fun r row row' hr hr' => ?_⟩
  cases r with
  | zero => simp at hr hr'; subst hr hr'; exact h
  | succ r => exact g.2 r row row' (by simpa using hr) (by simpa using hr')
theorem renRows_append {ρ : List Nat} {as bs as' bs' : List (List PV)} (h : RenRows ρ as as') (hl : as.length = as'.length) (g : RenRows ρ bs bs') : RenRows ρ (as ++ bs) (as' ++ bs') := by
  refine ⟨by have := g.1; simp; omega, fun r row row' hr hr' => ?_⟩
  rw [List.getElem?_append] at hr hr'
  split at hr
  · rename_i hlt; rw [if_pos (by rw [← hl]; exact hlt)] at hr'; exact h.2 r row row' hr hr'
  · rename_i hge; rw [if_neg (by rw [← hl]; exact hge)] at hr'; rw [← hl] at hr'; exact g.2 _ row row' hr hr'
def RenObjD (ρ : List Nat) : PObj → PObj → Prop
  | .dead, _ => True
  | .iter t p, .iter t' p' => t = t' ∧ p = p'
  | .rows z rs, .rows z' rs' => z = z' ∧ RenRows ρ rs rs'
  | .map es, .map es' => es.length = es'.length ∧ ∀ (j : Nat) (p p' : PV × PV), es[j]? = some p → es'[j]? = some p' → Ren ρ p.1 p'.1 ∧ Ren ρ p.2 p'.2
  | _, _ => False
theorem RenObjD.ren {ρ : List Nat} {o o' : PObj} (h : RenObjD ρ o o') : RenObj ρ o o' := by
  cases o <;> cases o' <;> first | exact .dead | exact h.elim | skip
  · obtain ⟨rfl, h1, h2⟩ := h
    exact .rows h1 fun r row row' hr hr' => (h2 r row row' hr hr').get
  · obtain ⟨rfl, rfl⟩ := h; exact .iter
  · exact .map h.1 h.2
def StoreRen (ρ : List Nat) (s : Store) : List PObj → List Nat → Prop
  | [], [] => True
  | o' :: r', i :: ri => (∃ o, s[i]? = some o ∧ RenObjD ρ o' o) ∧ StoreRen ρ s r' ri
  | _, _ => False
theorem StoreRen.get {ρ : List Nat} : ∀ (s' : List PObj) (is : List Nat), StoreRen ρ s s' is → s'.length = is.length ∧ ∀ (i : Nat) (o' : PObj), s'[i]? = some o' → ∃ j o, is[i]? = some j ∧ s[j]? = some o ∧ RenObj ρ o' o := by
  intro s'
  induction s' with
  | nil => intro is h; cases is with | nil => exact ⟨rfl, fun i o h => by simp at h⟩ | cons => exact h.elim
  | cons o' r' ih =>
    intro is h
    cases is with
    | nil => exact h.elim
    | cons i ri =>
      obtain ⟨⟨o, h1, h2⟩, h3⟩ := h
      obtain ⟨h4, h5⟩ := ih ri h3
      refine ⟨by simp [h4], fun k x hk => ?_⟩
      cases k with
      | zero => simp at hk; subst hk; exact ⟨i, o, rfl, h1, h2.ren⟩
      | succ k => simpa using h5 k x (by simpa using hk)

def RenEnv (ρ : List Nat) (e : Env) : List (Nat × PV) → Prop
  | [] => True
  | (n, v) :: r => Ren ρ v (e n) ∧ RenEnv ρ e r
theorem RenEnv.get {ρ : List Nat} : ∀ (l : List (Nat × PV)), RenEnv ρ e l → ∀ p ∈ l, Ren ρ p.2 (e p.1)
  | [], _, p, hp => by cases hp
  | (n, v) :: r, h, p, hp => by
    cases hp with
    | head => exact h.1
    | tail _ hp => exact RenEnv.get r h.2 p hp

/-- the look at the head of a loop: three small things to show -/
theorem View.of (ρ : List Nat) (l : List (Nat × PV)) (hm : ∀ i, i < m → ρ[i]? = some i) (hnd : ρ.Nodup) (hobj : StoreRen ρ s s' ρ) (he : RenEnv ρ e l) : ViewL m e s l s' :=
  .norm ρ hm hnd (StoreRen.get s' ρ hobj).1 (StoreRen.get s' ρ hobj).2 l (RenEnv.get l he)

section
variable {ρ : List Nat}
theorem ren_int {k k' : IntKind} {n n' : Int} : Ren ρ (.int k n) (.int k' n') ↔ k = k' ∧ n = n' := ⟨fun h => by cases h; exact ⟨rfl, rfl⟩, fun ⟨h, g⟩ => by subst h g; exact .int⟩
theorem ren_bool {b b' : Bool} : Ren ρ (.bool b) (.bool b') ↔ b = b' := ⟨fun h => by cases h; rfl, fun h => by subst h; exact .bool⟩
theorem ren_str {b b' : ByteArray} : Ren ρ (.str b) (.str b') ↔ b = b' := ⟨fun h => by cases h; rfl, fun h => by subst h; exact .str⟩
theorem ren_list {b b' : List (List PV)} : Ren ρ (.list b) (.list b') ↔ b = b' := ⟨fun h => by cases h; rfl, fun h => by subst h; exact .list⟩
theorem ren_iptr {b b' : List PV} : Ren ρ (.iptr b) (.iptr b') ↔ b = b' := ⟨fun h => by cases h; rfl, fun h => by subst h; exact .iptr⟩
theorem ren_nilsl : Ren ρ .nilsl .nilsl ↔ True := ⟨fun _ => trivial, fun _ => .nilsl⟩
theorem ren_nilptr : Ren ρ .nilptr .nilptr ↔ True := ⟨fun _ => trivial, fun _ => .nilptr⟩
theorem ren_niliface : Ren ρ .niliface .niliface ↔ True := ⟨fun _ => trivial, fun _ => .niliface⟩
theorem ren_nilfn : Ren ρ .nilfn .nilfn ↔ True := ⟨fun _ => trivial, fun _ => .nilfn⟩
theorem ren_any {v : PV} : Ren ρ .any v ↔ True := ⟨fun _ => trivial, fun _ => .any⟩
theorem ren_sl {i off len j off' len' : Nat} : Ren ρ (.sl i off len) (.sl j off' len') ↔ ρ[i]? = some j ∧ off = off' ∧ len = len' := ⟨fun h => by cases h; exact ⟨‹_›, rfl, rfl⟩, fun ⟨h, g, k⟩ => by subst g k; exact .sl h⟩
theorem ren_ptr {i off len j off' len' : Nat} : Ren ρ (.ptr i off len) (.ptr j off' len') ↔ ρ[i]? = some j ∧ off = off' ∧ len = len' := ⟨fun h => by cases h; exact ⟨‹_›, rfl, rfl⟩, fun ⟨h, g, k⟩ => by subst g k; exact .ptr h⟩
theorem RenL.of_get : ∀ {xs ys : List PV}, xs.length = ys.length → (∀ (k : Nat) (x y : PV), xs[k]? = some x → ys[k]? = some y → Ren ρ x y) → RenL ρ xs ys := by
  intro xs
  induction xs with
  | nil => intro ys h _; cases ys with | nil => trivial | cons => simp at h
  | cons a as ih =>
    intro ys h g
    cases ys with
    | nil => simp at h
    | cons b bs => exact ⟨g 0 a b rfl rfl, ih (by simpa using h) fun k x y hx hy => g (k + 1) x y (by simpa using hx) (by simpa using hy)⟩
theorem ren_agg {xs ys : List PV} : Ren ρ (.agg xs) (.agg ys) ↔ RenL ρ xs ys := ⟨fun h => by cases h; exact .of_get ‹_› ‹_›, fun h => .agg h.get.1 h.get.2⟩
theorem ren_tuple {xs ys : List PV} : Ren ρ (.tuple xs) (.tuple ys) ↔ RenL ρ xs ys := ⟨fun h => by cases h; exact .of_get ‹_› ‹_›, fun h => .tuple h.get.1 h.get.2⟩
theorem ren_fn {f f' : Fn} {xs ys xs' ys' : List PV} : Ren ρ (.fn f xs xs') (.fn f' ys ys') ↔ f = f' ∧ RenL ρ xs ys ∧ RenL ρ xs' ys' :=
  ⟨fun h => by cases h; exact ⟨rfl, .of_get ‹_› ‹_›, .of_get ‹_› ‹_›⟩, fun ⟨h, g, k⟩ => by subst h; exact .fn g.get.1 g.get.2 k.get.1 k.get.2⟩
theorem renRows_cons_iff {a b : List PV} {as bs : List (List PV)} : RenRows ρ (a :: as) (b :: bs) ↔ RenL ρ a b ∧ RenRows ρ as bs :=
  ⟨fun h => ⟨h.2 0 a b rfl rfl, by have := h.1; simpa using this, fun r row row' hr hr' => h.2 (r + 1) row row' (by simpa using hr) (by simpa using hr')⟩, fun h => renRows_cons h.1 h.2⟩
theorem renRows_nil_iff {rs : List (List PV)} : RenRows ρ [] rs ↔ True := ⟨fun _ => trivial, fun _ => renRows_nil⟩
end

end
end Go.Pv
