import Derived.Test.YtnoklmapofogeaaUPvQt
import Derived.Test.YtnoklmapofogeaaUCcA
import Derived.Test.YtnoklmapofogeaaUCcF
set_option linter.unusedVariables false
set_option linter.unusedSimpArgs false
set_option maxRecDepth 100000
set_option maxHeartbeats 4000000
namespace Go.Pv
open Go
inductive Pf where
 | mk (rule : ByteArray) (f : Fm) (l r : List Fm) (kids : List Pf)
 deriving Inhabited
def Pf.rule : Pf → ByteArray | .mk a _ _ _ _ => a
def Pf.f : Pf → Fm | .mk _ a _ _ _ => a
def Pf.l : Pf → List Fm | .mk _ _ a _ _ => a
def Pf.r : Pf → List Fm | .mk _ _ _ a _ => a
def Pf.kids : Pf → List Pf | .mk _ _ _ _ a => a
theorem Pf.ind {P : Pf → Prop} (h : ∀ p, (∀ q ∈ p.kids, P q) → P p) (p : Pf) : P p := by
 refine Pf.rec (motive_1 := P) (motive_2 := fun l => ∀ q ∈ l, P q) (fun a b c d l hl => h _ hl) (fun q hq => by cases hq) (fun a r ha hr q hq => ?_) p
 cases hq with
 | head => exact ha
 | tail _ hq => exact hr q hq
mutual
def prf : Pf → List PV
 | .mk a f l r ks => [.str a, .int .i64 f.kind, .str f.name, .list (f.kids.map frm), .list (l.map frm), .list (r.map frm), .list (prfs ks)]
def prfs : List Pf → List (List PV)
 | [] => []
 | p :: r => prf p :: prfs r
end
theorem prfs_eq (l : List Pf) : prfs l = l.map prf := by
 induction l with
 | nil => rfl
 | cons f r ih => rw [prfs, ih]; rfl
theorem prf_eq (p : Pf) : prf p = [.str p.rule, .int .i64 p.f.kind, .str p.f.name, .list (p.f.kids.map frm), .list (p.l.map frm), .list (p.r.map frm), .list (p.kids.map prf)] := by
 cases p with | mk a f l r ks => rw [prf, prfs_eq]; rfl
section
variable {p : Pf}
theorem prf_flat (p : Pf) : (prf p).all flatV = true := by rw [prf_eq]; rfl
@[simp] theorem prf_length : (prf p).length = 7 := by rw [prf_eq]; rfl
@[simp] theorem prf_cell : (prf p).all isCell = true := by rw [prf_eq]; rfl
@[simp] theorem prf_isCell : (∀ x ∈ prf p, isCell x = true) = True := by rw [prf_eq]; simp
@[simp] theorem prf_take7 : (prf p).take 7 = prf p := List.take_of_length_le (by simp)
@[simp] theorem prf_drop7 : (prf p).drop 7 = [] := List.drop_of_length_le (by simp)
@[simp] theorem prf_get0 : (prf p)[0]? = some (.str p.rule) := by rw [prf_eq]; rfl
@[simp] theorem prf_get1 : (prf p)[1]? = some (.int .i64 p.f.kind) := by rw [prf_eq]; rfl
@[simp] theorem prf_get2 : (prf p)[2]? = some (.str p.f.name) := by rw [prf_eq]; rfl
@[simp] theorem prf_get3 : (prf p)[3]? = some (.list (p.f.kids.map frm)) := by rw [prf_eq]; rfl
@[simp] theorem prf_get4 : (prf p)[4]? = some (.list (p.l.map frm)) := by rw [prf_eq]; rfl
@[simp] theorem prf_get5 : (prf p)[5]? = some (.list (p.r.map frm)) := by rw [prf_eq]; rfl
@[simp] theorem prf_get6 : (prf p)[6]? = some (.list (p.kids.map prf)) := by rw [prf_eq]; rfl
@[simp] theorem prf_ge0 (h : 0 < (prf p).length) : (prf p)[0] = .str p.rule := Option.some.inj ((List.getElem?_eq_getElem h).symm.trans prf_get0)
@[simp] theorem prf_ge6 (h : 6 < (prf p).length) : (prf p)[6] = .list (p.kids.map prf) := Option.some.inj ((List.getElem?_eq_getElem h).symm.trans prf_get6)
@[simp] theorem prf_ge4 (h : 4 < (prf p).length) : (prf p)[4] = .list (p.l.map frm) := Option.some.inj ((List.getElem?_eq_getElem h).symm.trans prf_get4)
@[simp] theorem prf_ge5 (h : 5 < (prf p).length) : (prf p)[5] = .list (p.r.map frm) := Option.some.inj ((List.getElem?_eq_getElem h).symm.trans prf_get5)
@[simp] theorem prf_ge1 (h : 1 < (prf p).length) : (prf p)[1] = .int .i64 p.f.kind := Option.some.inj ((List.getElem?_eq_getElem h).symm.trans prf_get1)
@[simp] theorem prf_ge2 (h : 2 < (prf p).length) : (prf p)[2] = .str p.f.name := Option.some.inj ((List.getElem?_eq_getElem h).symm.trans prf_get2)
@[simp] theorem prf_ge3 (h : 3 < (prf p).length) : (prf p)[3] = .list (p.f.kids.map frm) := Option.some.inj ((List.getElem?_eq_getElem h).symm.trans prf_get3)
@[simp] theorem prf_f : ((prf p).drop 1).take 3 = frm p.f := by rw [prf_eq, frm_eq]; rfl
@[simp] theorem prf_tl : List.take 3 (prf p).tail = frm p.f := by rw [prf_eq, frm_eq]; rfl
@[simp] theorem prf_end : ((prf p).drop 4).take 2 = [.list (p.l.map frm), .list (p.r.map frm)] := by rw [prf_eq]; rfl
@[simp] theorem prf_drop6 : (prf p).drop 6 = [.list (p.kids.map prf)] := by rw [prf_eq]; rfl
@[simp] theorem prf_drop5 : (prf p).drop 5 = [.list (p.r.map frm), .list (p.kids.map prf)] := by rw [prf_eq]; rfl
@[simp] theorem prf_renm {ρ : List Nat} {n : Nat} : (prf p).map (renN ρ n) = prf p := map_id_of (fun v => flat_ren) (prf_flat p)
@[simp] theorem prf_derefm {s : Store} {n : Nat} : (prf p).map (deref s n) = prf p := map_id_of (fun v => flat_deref) (prf_flat p)
@[simp] theorem prf_refs {n : Nat} : (prf p).flatMap (refsN n) = [] := by rw [prf_eq]; simp
@[simp] theorem prf_soft : (prf p).map soft1 = prf p := by rw [prf_eq]; rfl
@[simp] theorem prf_frz {F : List Nat} {s : Store} : (prf p).map (frzV F s) = prf p := map_id_of (fun v => frzV_flat) (prf_flat p)
@[simp] theorem prf_up {ρ : List Nat} {n : Nat} : (prf p).map (upN ρ n) = prf p := map_id_of (fun v => flat_up) (prf_flat p)
instance : FlatRow prf := ⟨prf_flat⟩
@[simp] theorem cl_prf : Closed (.agg (prf p)) := closed_agg (by rw [prf_eq]; simp)
end
end Go.Pv
namespace Go.Proofs.Ytnoklmapofogeaa
open Go Go.Pv
mutual
def cutsP : Pf → Nat
 | .mk a _ _ _ ks => (if a = ⟨#[99, 117, 116]⟩ then 1 else 0) + cutsL ks
def cutsL : List Pf → Nat
 | [] => 0
 | p :: r => cutsP p + cutsL r
end
theorem cutsP_eq (p : Pf) : cutsP p = (if p.rule = ⟨#[99, 117, 116]⟩ then 1 else 0) + cutsL p.kids := by
 cases p with | mk a f l r ks => rw [cutsP]; rfl
end Go.Proofs.Ytnoklmapofogeaa
namespace Go.Proofs.Ytnoklmapofogeaa
open Go Go.Pv
noncomputable def sameF (b c : List Fm) : Bool := decide (b.length = c.length) && withinF b c
noncomputable def ruleT (u : Bool) (a : ByteArray) : Option Ent := match lookT sharedT a with
 | some e => some e
 | none => lookT (if u = true then intuT else classT) a
noncomputable def meetB : List Prem → List Pf → Bool
 | q :: qs, k :: ks => sameF q.1 k.l && sameF q.2 k.r && meetB qs ks
 | _, _ => true
noncomputable def stepF (u : Bool) (p : Pf) : Int :=
 if p.rule = ⟨#[119, 101, 97, 107]⟩ then
  if noneF p.f = false then 5 else match p.kids with
   | [k] => if (withinF k.l p.l && withinF k.r p.r) = true then 0 else 7
   | _ => 9
 else match ruleT u p.rule with
  | none => 4
  | some e => if (plainF p.f).1 ≠ 0 then 5 else if (e.R p.f p.l p.r).2 = false then 7 else
   if p.kids.length ≠ (e.R p.f p.l p.r).1.length then 9 else if meetB (e.R p.f p.l p.r).1 p.kids = true then 0 else 7
structure Sz (p : Pf) : Prop where
 l : p.l.length ≤ 40000
 r : p.r.length ≤ 40000
theorem Ar.of_plain {f : Fm} (h : (plainF f).1 = 0) : Ar f := by
 rcases ((plainF_iff f).1 h).1.seven with ⟨nm, _, rfl⟩ | rfl | rfl | ⟨a, _, rfl⟩ | ⟨a, b, _, _, rfl⟩ | ⟨a, b, _, _, rfl⟩ | ⟨a, b, _, _, rfl⟩ <;> constructor <;> simp
instance : FlatRow premRow := ⟨fun x => rfl⟩
theorem ent_len {u : Bool} {a : ByteArray} {e : Ent} (h : ruleT u a = some e) (f : Fm) (hA : Ar f) (l r : List Fm) : ∀ q ∈ (e.R f l r).1, q.1.length ≤ l.length + 2 ∧ q.2.length ≤ r.length + 2 := by
 have e1 := List.length_erase_le (a := f) (l := l)
 have e2 := List.length_erase_le (a := f) (l := r)
 have hkk : ∀ k x, kindF f k x = true → f.kind = k := fun k x hh => (kindF_mem hh).1
 have key : ∀ T : Tab, (T = sharedT ∨ T = classT ∨ T = intuT) → ∀ p ∈ T, ∀ q ∈ (p.2.R f l r).1, q.1.length ≤ l.length + 2 ∧ q.2.length ≤ r.length + 2 := by
  intro T hT p hp q hq
  have hm : p.2.R = axR ∨ p.2.R = trueR ∨ p.2.R = falseR ∨ p.2.R = andLR ∨ p.2.R = andRR ∨ p.2.R = orLR ∨ p.2.R = thenRR ∨ p.2.R = notRR ∨ p.2.R = contrLR ∨ p.2.R = orRR ∨ p.2.R = thenLR ∨ p.2.R = notLR ∨ p.2.R = contrRR ∨ p.2.R = cutCR ∨ p.2.R = thenIR ∨ p.2.R = notIR ∨ p.2.R = cutIR ∨ p.2.R = sideR 0 ∨ p.2.R = sideR 1 := by
   rcases hT with rfl | rfl | rfl <;> simp only [sharedT, classT, intuT, List.mem_cons, List.not_mem_nil, or_false] at hp
   ·rcases hp with rfl | rfl | rfl | rfl | rfl | rfl | rfl | rfl | rfl <;> simp
   ·rcases hp with rfl | rfl | rfl | rfl | rfl <;> simp
   ·rcases hp with rfl | rfl | rfl | rfl | rfl <;> simp
  have k5 : kindF f 5 l = true → f.kids.length = 2 := fun hh => by obtain ⟨a, b, h⟩ := hA.two (.inl (hkk _ _ hh)); rw [h]; rfl
  have k6 : kindF f 6 r = true → f.kids.length = 2 := fun hh => by obtain ⟨a, b, h⟩ := hA.two (.inr (.inl (hkk _ _ hh))); rw [h]; rfl
  rcases hm with h | h | h | h | h | h | h | h | h | h | h | h | h | h | h | h | h | h | h <;> rw [h] at hq
  all_goals (first | unfold axR at hq | unfold trueR at hq | unfold falseR at hq | unfold andLR at hq | unfold andRR at hq | unfold orLR at hq | unfold thenRR at hq | unfold notRR at hq | unfold contrLR at hq | unfold orRR at hq | unfold thenLR at hq | unfold notLR at hq | unfold contrRR at hq | unfold cutCR at hq | unfold thenIR at hq | unfold notIR at hq | unfold cutIR at hq | unfold sideR at hq)
  all_goals (try split at hq)
  all_goals simp only [List.mem_cons, List.not_mem_nil, or_false] at hq
  all_goals first | (cases hq; done) | (subst hq; simp_all; omega) | (rcases hq with rfl | rfl <;> simp_all <;> omega)
 unfold ruleT at h
 split at h
 ·rename_i e' he
  cases h
  obtain ⟨p, h1, h2⟩ := lookT_mem he
  rw [← h2]; exact key _ (.inl rfl) p h1
 ·obtain ⟨p, h1, h2⟩ := lookT_mem h
  rw [← h2]
  cases u
  ·exact key _ (.inr (.inl rfl)) p h1
  ·exact key _ (.inr (.inr rfl)) p h1
end Go.Proofs.Ytnoklmapofogeaa
namespace Go.Proofs.Ytnoklmapofogeaa
open Go Go.Pv
inductive Szs : Pf → Prop where
 | mk {p : Pf} (h : Sz p) (hk : ∀ k ∈ p.kids, Szs k) (hl : p.kids.length ≤ 1000000) : Szs p
theorem Szs.sz {p : Pf} (h : Szs p) : Sz p := by cases h; assumption
theorem Szs.kid {p k : Pf} (h : Szs p) (hk : k ∈ p.kids) : Szs k := by cases h with | mk a b c => exact b k hk
theorem Szs.len {p : Pf} (h : Szs p) : p.kids.length ≤ 1000000 := by cases h; assumption
mutual
noncomputable def lookF (u : Bool) : Pf → Nat → Int → Nat × (Int × Int)
 | .mk a f l r ks, n, d =>
  if 20000 ≤ n ∨ 400 < d then (n + 1, (2, 0)) else
  if (sequentF l r).1 ≠ 0 ∨ (u = true ∧ 1 < r.length) then (n + 1, (5, (n : Int))) else
  if stepF u (.mk a f l r ks) ≠ 0 then (n + 1, (stepF u (.mk a f l r ks), (n : Int))) else looksF u ks (n + 1) (d + 1)
noncomputable def looksF (u : Bool) : List Pf → Nat → Int → Nat × (Int × Int)
 | [], n, _ => (n, (0, 0))
 | k :: ks, n, d => if (lookF u k n d).2.1 ≠ 0 then lookF u k n d else looksF u ks (lookF u k n d).1 d
end
theorem lookF_eq (u : Bool) (p : Pf) (n : Nat) (d : Int) : lookF u p n d =
  if 20000 ≤ n ∨ 400 < d then (n + 1, (2, 0)) else
  if (sequentF p.l p.r).1 ≠ 0 ∨ (u = true ∧ 1 < p.r.length) then (n + 1, (5, (n : Int))) else
  if stepF u p ≠ 0 then (n + 1, (stepF u p, (n : Int))) else looksF u p.kids (n + 1) (d + 1) := by
 cases p with | mk a f l r ks => rw [lookF]; rfl
theorem lookF_le (u : Bool) (p : Pf) : ∀ (n : Nat) (d : Int), n ≤ 20000 → (lookF u p n d).2.1 = 0 → (lookF u p n d).1 ≤ 20000 := by
 induction p using Pf.ind with
 | h p ih =>
  intro n d hn h
  rw [lookF_eq] at h ⊢
  have key : ∀ ks : List Pf, (∀ k ∈ ks, k ∈ p.kids) → ∀ (n : Nat) (d : Int), n ≤ 20000 → (looksF u ks n d).2.1 = 0 → (looksF u ks n d).1 ≤ 20000 := by
   intro ks
   induction ks with
   | nil => intro _ n d hn _; rw [looksF]; exact hn
   | cons k r ihr =>
    intro hm n d hn h
    rw [looksF] at h ⊢
    by_cases h0 : (lookF u k n d).2.1 = 0
    ·rw [if_neg (by simpa using h0)] at h ⊢
     exact ihr (fun k hk => hm k (.tail _ hk)) _ _ (ih k (hm k (.head _)) n d hn h0) h
    ·rw [if_pos h0] at h; exact absurd h h0
  by_cases h1 : 20000 ≤ n ∨ 400 < d
  ·rw [if_pos h1] at h; cases h
  ·rw [if_neg h1] at h ⊢
   by_cases h2 : (sequentF p.l p.r).1 ≠ 0 ∨ (u = true ∧ 1 < p.r.length)
   ·rw [if_pos h2] at h; cases h
   ·rw [if_neg h2] at h ⊢
    by_cases h3 : stepF u p ≠ 0
    ·rw [if_pos h3] at h; exact absurd h h3
    ·rw [if_neg h3] at h ⊢
     exact key _ (fun k hk => hk) _ _ (by omega) h
noncomputable def checkF (u : Bool) (p : Pf) : Int × Int := (lookF u p 0 1).2
end Go.Proofs.Ytnoklmapofogeaa
namespace Go.Proofs.Ytnoklmapofogeaa
open Go Go.Pv
theorem withinF_perm : ∀ (b c : List Fm), withinF b c = true → ∃ d, c.Perm (b ++ d)
 | [], c, _ => ⟨c, List.Perm.refl _⟩
 | f :: b, c, h => by
  rw [withinF, Bool.and_eq_true, hasF_iff] at h
  obtain ⟨d, hd⟩ := withinF_perm b _ h.2
  exact ⟨d, (List.perm_cons_erase h.1).trans (hd.cons f)⟩
theorem withinF_of {b : List Fm} : ∀ {c d : List Fm}, c.Perm (b ++ d) → withinF b c = true := by
 induction b with
 | nil => intros; rfl
 | cons f b ih =>
  intro c d h
  rw [withinF, Bool.and_eq_true, hasF_iff]
  refine ⟨h.mem_iff.2 (by simp), ih (d := d) ?_⟩
  have := h.erase f
  rwa [List.cons_append, List.erase_cons_head] at this
theorem withinF_iff {b c : List Fm} : withinF b c = true ↔ ∃ d, c.Perm (b ++ d) := ⟨withinF_perm b c, fun ⟨_, h⟩ => withinF_of h⟩
theorem sameF_iff {b c : List Fm} : sameF b c = true ↔ c.Perm b := by
 unfold sameF
 rw [Bool.and_eq_true, decide_eq_true_eq, withinF_iff]
 constructor
 ·rintro ⟨hl, d, hd⟩
  have := hd.length_eq
  rw [List.length_append] at this
  have : d = [] := List.length_eq_zero_iff.1 (by omega)
  subst this; simpa using hd
 ·intro h
  exact ⟨h.length_eq.symm, [], by simpa using h⟩
section
variable {v : ByteArray → Bool} {l r : List Fm} {f : Fm}
end
theorem seqGo_all : ∀ {l : List Fm} {i : Nat}, (seqGo l i).1 = 0 → ∀ f ∈ l, (plainF f).1 = 0
 | [], _, _, f, hf => nomatch hf
 | a :: r, i, h, f, hf => by
  rw [seqGo] at h
  by_cases h0 : (plainF a).1 = 0
  ·rw [if_neg (by simpa using h0)] at h
   rcases List.mem_cons.1 hf with rfl | hf
   ·exact h0
   ·exact seqGo_all h f hf
  ·rw [if_pos h0] at h; exact absurd h h0
theorem sequent_all {l r : List Fm} (h : (sequentF l r).1 = 0) : l.length + r.length ≤ 60 ∧ (∀ f ∈ l, (plainF f).1 = 0) ∧ ∀ f ∈ r, (plainF f).1 = 0 := by
 unfold sequentF at h
 split at h
 ·cases h
 ·have := seqGo_all h
  exact ⟨by omega, fun f hf => this f (by simp [hf]), fun f hf => this f (by simp [hf])⟩
end Go.Proofs.Ytnoklmapofogeaa
namespace Go.Proofs.Ytnoklmapofogeaa
open Go Go.Pv
theorem pf_mk1 {a : ByteArray} {f : Fm} {l r : List Fm} {ks : List Pf} : (Pf.mk a f l r ks).rule = a ∧ (Pf.mk a f l r ks).f = f ∧ (Pf.mk a f l r ks).l = l ∧ (Pf.mk a f l r ks).r = r ∧ (Pf.mk a f l r ks).kids = ks := ⟨rfl, rfl, rfl, rfl, rfl⟩
structure GR where
 ok : Option Pf
 n : Nat
 cnt : Option (List ByteArray)
structure GL where
 ok : Option (List Pf)
 n : Nat
 cnt : Option (List ByteArray)
def fstK (k : Int) (l : List Fm) : Option Nat := l.findIdx? fun f => decide (f.kind = k)
theorem placeK_eq (k : Int) (l : List Fm) : placeK k l = match fstK k l with
 | some i => (i : Int)
 | none => -1 := rfl
theorem fstK_some {k : Int} {l : List Fm} {i : Nat} (h : fstK k l = some i) : ∃ hi : i < l.length, l[i].kind = k := by
 unfold fstK at h
 obtain ⟨h1, h2, _⟩ := List.findIdx?_eq_some_iff_getElem.1 h
 exact ⟨h1, by simpa using h2⟩
theorem fstK_none {k : Int} {l : List Fm} (h : fstK k l = none) : ∀ f ∈ l, f.kind ≠ k := by
 unfold fstK at h
 intro f hf
 have := List.findIdx?_eq_none_iff.1 h f hf
 simpa using this
def gt (l : List Fm) (i : Nat) : Fm := l.getD i (.mk 0 ⟨#[]⟩ [])
theorem gt_eq {l : List Fm} {i : Nat} (h : i < l.length) : gt l i = l[i] := by unfold gt; simp [h]
noncomputable def endL (r : List Fm) : List Fm → Option (ByteArray × Fm)
 | [] => none
 | f :: t => if f.kind = 3 then some (⟨#[102, 97, 108, 115, 101]⟩, f) else if hasF r f = true then some (⟨#[97, 120]⟩, f) else endL r t
def endR : List Fm → Option (ByteArray × Fm)
 | [] => none
 | f :: t => if f.kind = 2 then some (⟨#[116, 114, 117, 101]⟩, f) else endR t
noncomputable def endF (l r : List Fm) : Option (ByteArray × Fm) := match endL r l with
 | some e => some e
 | none => endR r
def moveF (l r : List Fm) : Option (ByteArray × Fm × List Prem) :=
 match fstK 5 l with
 | some i => some (⟨#[97, 110, 100, 45, 108]⟩, gt l i, [(withL l i (gt l i).kids, r)])
 | none => match fstK 4 l with
 | some i => some (⟨#[110, 111, 116, 45, 108]⟩, gt l i, [(withL l i [], r ++ (gt l i).kids)])
 | none => match fstK 6 r with
 | some i => some (⟨#[111, 114, 45, 114]⟩, gt r i, [(l, withL r i (gt r i).kids)])
 | none => match fstK 4 r with
 | some i => some (⟨#[110, 111, 116, 45, 114]⟩, gt r i, [(l ++ (gt r i).kids, withL r i [])])
 | none => match fstK 7 r with
 | some i => some (⟨#[116, 104, 101, 110, 45, 114]⟩, gt r i, [(l ++ [kid (gt r i) 0], withL r i [kid (gt r i) 1])])
 | none => match fstK 5 r with
 | some i => some (⟨#[97, 110, 100, 45, 114]⟩, gt r i, [(l, withL r i [kid (gt r i) 0]), (l, withL r i [kid (gt r i) 1])])
 | none => match fstK 6 l with
 | some i => some (⟨#[111, 114, 45, 108]⟩, gt l i, [(withL l i [kid (gt l i) 0], r), (withL l i [kid (gt l i) 1], r)])
 | none => match fstK 7 l with
 | some i => some (⟨#[116, 104, 101, 110, 45, 108]⟩, gt l i, [(withL l i [], r ++ [kid (gt l i) 0]), (withL l i [kid (gt l i) 1], r)])
 | none => none
noncomputable def growL (g : List Fm → List Fm → Nat → GR) : List Prem → Nat → List Pf → GL
 | [], n, acc => ⟨some acc, n, none⟩
 | q :: qs, n, acc => match (g q.1 q.2 n).ok with
  | some p => growL g qs (g q.1 q.2 n).n (acc ++ [p])
  | none => ⟨none, (g q.1 q.2 n).n, (g q.1 q.2 n).cnt⟩
noncomputable def growF : Nat → List Fm → List Fm → Int → Nat → GR
 | 0, _, _, _, n => ⟨none, n, none⟩
 | k + 1, l, r, d, n => if 20000 < n + 1 ∨ 400 < d ∨ 60 < l.length + r.length then ⟨none, n + 1, none⟩ else
  match endF l r with
  | some e => ⟨some (.mk e.1 e.2 l r []), n + 1, none⟩
  | none => match moveF l r with
   | some m => match (growL (fun l r n => growF k l r (d + 1) n) m.2.2 (n + 1) []).ok with
    | some ks => ⟨some (.mk m.1 m.2.1 l r ks), (growL (fun l r n => growF k l r (d + 1) n) m.2.2 (n + 1) []).n, none⟩
    | none => ⟨none, (growL (fun l r n => growF k l r (d + 1) n) m.2.2 (n + 1) []).n, (growL (fun l r n => growF k l r (d + 1) n) m.2.2 (n + 1) []).cnt⟩
   | none => ⟨none, n + 1, some (varsL l)⟩
def noPf : List PV := [.str ⟨#[]⟩, .int .i64 0, .str ⟨#[]⟩, .nilsl, .nilsl, .nilsl, .nilsl]
def rowO : Option Pf → List PV
 | some p => prf p
 | none => noPf
theorem rowO_s (p : Pf) : rowO (some p) = prf p := rfl
theorem rowO_n : rowO none = noPf := rfl
theorem rowO_flat (x : Option Pf) : (rowO x).all flatV = true := by
 cases x with
 | none => rfl
 | some p => exact prf_flat p
section
variable {x : Option Pf}
@[simp] theorem rowO_length : (rowO x).length = 7 := by cases x <;> simp [rowO, noPf]
@[simp] theorem rowO_cell : (rowO x).all isCell = true := by cases x <;> simp [rowO, noPf]
@[simp] theorem rowO_isCell : (∀ y ∈ rowO x, isCell y = true) = True := by cases x <;> simp [rowO, noPf]
@[simp] theorem rowO_take7 : (rowO x).take 7 = rowO x := List.take_of_length_le (by simp)
@[simp] theorem rowO_drop7 : (rowO x).drop 7 = [] := List.drop_of_length_le (by simp)
@[simp] theorem rowO_renm {ρ : List Nat} {n : Nat} : (rowO x).map (renN ρ n) = rowO x := map_id_of (fun v => flat_ren) (rowO_flat x)
@[simp] theorem rowO_derefm {s : Store} {n : Nat} : (rowO x).map (deref s n) = rowO x := map_id_of (fun v => flat_deref) (rowO_flat x)
@[simp] theorem rowO_refs {n : Nat} : (rowO x).flatMap (refsN n) = [] := by
 cases x with
 | none => cases n <;> simp [rowO, noPf]
 | some p => exact prf_refs
@[simp] theorem rowO_frz {F : List Nat} {s : Store} : (rowO x).map (frzV F s) = rowO x := map_id_of (fun v => frzV_flat) (rowO_flat x)
@[simp] theorem rowO_up {ρ : List Nat} {n : Nat} : (rowO x).map (upN ρ n) = rowO x := map_id_of (fun v => flat_up) (rowO_flat x)
end
instance : FlatRow rowO := ⟨rowO_flat⟩
@[simp] theorem cl_rowO {x : Option Pf} : Closed (.agg (rowO x)) := closed_agg (by cases x with
 | none => simp [rowO, noPf, flat_int, flat_str, Flat.closed]
 | some p => rw [rowO, prf_eq]; simp)
def cntC (V : List ByteArray) : List ByteArray := compL (sortL V)
def cntR (V : List ByteArray) : List ByteArray := List.replicate (V.length - (cntC V).length) ⟨#[]⟩
def fndO (k n : Nat) : Option (List ByteArray) → PObj
 | none => .rows 3 [[.int .i64 (n : Int), .nilsl, .bool false]]
 | some V => .rows 3 [[.int .i64 (n : Int), .sl k 0 (cntC V).length, .bool true]]
def fndT : Option (List ByteArray) → Store
 | none => []
 | some V => [.rows 1 ((cntC V ++ cntR V).map strRow)]
end Go.Proofs.Ytnoklmapofogeaa
namespace Go.Proofs.Ytnoklmapofogeaa
open Go Go.Pv
inductive Mv (l r : List Fm) : ByteArray × Fm × List Prem → Prop where
 | andL (i : Nat) (hi : i < l.length) (a b : Fm) (hk : l[i].kind = 5) (hs : l[i].kids = [a, b]) : Mv l r (⟨#[97, 110, 100, 45, 108]⟩, l[i], [(withL l i [a, b], r)])
 | notL (i : Nat) (hi : i < l.length) (a : Fm) (hk : l[i].kind = 4) (hs : l[i].kids = [a]) : Mv l r (⟨#[110, 111, 116, 45, 108]⟩, l[i], [(withL l i [], r ++ [a])])
 | orR (i : Nat) (hi : i < r.length) (a b : Fm) (hk : r[i].kind = 6) (hs : r[i].kids = [a, b]) : Mv l r (⟨#[111, 114, 45, 114]⟩, r[i], [(l, withL r i [a, b])])
 | notR (i : Nat) (hi : i < r.length) (a : Fm) (hk : r[i].kind = 4) (hs : r[i].kids = [a]) : Mv l r (⟨#[110, 111, 116, 45, 114]⟩, r[i], [(l ++ [a], withL r i [])])
 | thenR (i : Nat) (hi : i < r.length) (a b : Fm) (hk : r[i].kind = 7) (hs : r[i].kids = [a, b]) : Mv l r (⟨#[116, 104, 101, 110, 45, 114]⟩, r[i], [(l ++ [a], withL r i [b])])
 | andR (i : Nat) (hi : i < r.length) (a b : Fm) (hk : r[i].kind = 5) (hs : r[i].kids = [a, b]) : Mv l r (⟨#[97, 110, 100, 45, 114]⟩, r[i], [(l, withL r i [a]), (l, withL r i [b])])
 | orL (i : Nat) (hi : i < l.length) (a b : Fm) (hk : l[i].kind = 6) (hs : l[i].kids = [a, b]) : Mv l r (⟨#[111, 114, 45, 108]⟩, l[i], [(withL l i [a], r), (withL l i [b], r)])
 | thenL (i : Nat) (hi : i < l.length) (a b : Fm) (hk : l[i].kind = 7) (hs : l[i].kids = [a, b]) : Mv l r (⟨#[116, 104, 101, 110, 45, 108]⟩, l[i], [(withL l i [], r ++ [a]), (withL l i [b], r)])
theorem move_some {l r : List Fm} (hl : ∀ f ∈ l, Ar f) (hr : ∀ f ∈ r, Ar f) {m : ByteArray × Fm × List Prem} (h : moveF l r = some m) : Mv l r m := by
 unfold moveF at h
 cases a5 : fstK 5 l with
 | some i =>
  obtain ⟨hi, hk⟩ := fstK_some a5
  obtain ⟨a, b, hs⟩ := (hl _ (List.getElem_mem hi)).two (by omega)
  rw [a5] at h; simp only [gt_eq hi, hs, Option.some.injEq] at h; subst h; exact .andL i hi a b hk hs
 | none =>
 cases a4 : fstK 4 l with
 | some i =>
  obtain ⟨hi, hk⟩ := fstK_some a4
  obtain ⟨a, hs⟩ := (hl _ (List.getElem_mem hi)).one hk
  rw [a5, a4] at h; simp only [gt_eq hi, hs, Option.some.injEq] at h; subst h; exact .notL i hi a hk hs
 | none =>
 cases b6 : fstK 6 r with
 | some i =>
  obtain ⟨hi, hk⟩ := fstK_some b6
  obtain ⟨a, b, hs⟩ := (hr _ (List.getElem_mem hi)).two (by omega)
  rw [a5, a4, b6] at h; simp only [gt_eq hi, hs, Option.some.injEq] at h; subst h; exact .orR i hi a b hk hs
 | none =>
 cases b4 : fstK 4 r with
 | some i =>
  obtain ⟨hi, hk⟩ := fstK_some b4
  obtain ⟨a, hs⟩ := (hr _ (List.getElem_mem hi)).one hk
  rw [a5, a4, b6, b4] at h; simp only [gt_eq hi, hs, Option.some.injEq] at h; subst h; exact .notR i hi a hk hs
 | none =>
 cases b7 : fstK 7 r with
 | some i =>
  obtain ⟨hi, hk⟩ := fstK_some b7
  obtain ⟨a, b, hs⟩ := (hr _ (List.getElem_mem hi)).two (by omega)
  rw [a5, a4, b6, b4, b7] at h; simp only [gt_eq hi, hs, kid, List.getD_cons_zero, List.getD_cons_succ, Option.some.injEq] at h; subst h; exact .thenR i hi a b hk hs
 | none =>
 cases b5 : fstK 5 r with
 | some i =>
  obtain ⟨hi, hk⟩ := fstK_some b5
  obtain ⟨a, b, hs⟩ := (hr _ (List.getElem_mem hi)).two (by omega)
  rw [a5, a4, b6, b4, b7, b5] at h; simp only [gt_eq hi, hs, kid, List.getD_cons_zero, List.getD_cons_succ, Option.some.injEq] at h; subst h; exact .andR i hi a b hk hs
 | none =>
 cases a6 : fstK 6 l with
 | some i =>
  obtain ⟨hi, hk⟩ := fstK_some a6
  obtain ⟨a, b, hs⟩ := (hl _ (List.getElem_mem hi)).two (by omega)
  rw [a5, a4, b6, b4, b7, b5, a6] at h; simp only [gt_eq hi, hs, kid, List.getD_cons_zero, List.getD_cons_succ, Option.some.injEq] at h; subst h; exact .orL i hi a b hk hs
 | none =>
 cases a7 : fstK 7 l with
 | some i =>
  obtain ⟨hi, hk⟩ := fstK_some a7
  obtain ⟨a, b, hs⟩ := (hl _ (List.getElem_mem hi)).two (by omega)
  rw [a5, a4, b6, b4, b7, b5, a6, a7] at h; simp only [gt_eq hi, hs, kid, List.getD_cons_zero, List.getD_cons_succ, Option.some.injEq] at h; subst h; exact .thenL i hi a b hk hs
 | none => rw [a5, a4, b6, b4, b7, b5, a6, a7] at h; cases h
theorem move_none {l r : List Fm} (h : moveF l r = none) : (∀ f ∈ l, f.kind ≠ 4 ∧ f.kind ≠ 5 ∧ f.kind ≠ 6 ∧ f.kind ≠ 7) ∧ ∀ f ∈ r, f.kind ≠ 4 ∧ f.kind ≠ 5 ∧ f.kind ≠ 6 ∧ f.kind ≠ 7 := by
 unfold moveF at h
 have a5 : fstK 5 l = none := by
  cases a : fstK 5 l with
  | none => rfl
  | some i => rw [a] at h; cases h
 rw [a5] at h
 dsimp only at h
 have a4 : fstK 4 l = none := by
  cases a : fstK 4 l with
  | none => rfl
  | some i => rw [a] at h; cases h
 rw [a4] at h
 dsimp only at h
 have b6 : fstK 6 r = none := by
  cases a : fstK 6 r with
  | none => rfl
  | some i => rw [a] at h; cases h
 rw [b6] at h
 dsimp only at h
 have b4 : fstK 4 r = none := by
  cases a : fstK 4 r with
  | none => rfl
  | some i => rw [a] at h; cases h
 rw [b4] at h
 dsimp only at h
 have b7 : fstK 7 r = none := by
  cases a : fstK 7 r with
  | none => rfl
  | some i => rw [a] at h; cases h
 rw [b7] at h
 dsimp only at h
 have b5 : fstK 5 r = none := by
  cases a : fstK 5 r with
  | none => rfl
  | some i => rw [a] at h; cases h
 rw [b5] at h
 dsimp only at h
 have a6 : fstK 6 l = none := by
  cases a : fstK 6 l with
  | none => rfl
  | some i => rw [a] at h; cases h
 rw [a6] at h
 dsimp only at h
 have a7 : fstK 7 l = none := by
  cases a : fstK 7 l with
  | none => rfl
  | some i => rw [a] at h; cases h
 exact ⟨fun f hf => ⟨fstK_none a4 f hf, fstK_none a5 f hf, fstK_none a6 f hf, fstK_none a7 f hf⟩, fun f hf => ⟨fstK_none b4 f hf, fstK_none b5 f hf, fstK_none b6 f hf, fstK_none b7 f hf⟩⟩
def szL (l : List Fm) : Nat := (pres l).length
theorem szL_app (a b : List Fm) : szL (a ++ b) = szL a + szL b := by unfold szL; rw [pres_append, List.length_append]
theorem szL_one (f : Fm) : szL [f] = 1 + szL f.kids := by unfold szL; rw [pres_cons, pres_nil, List.append_nil, pre_eq, List.length_cons]; omega
theorem split_at {l : List Fm} {i : Nat} (h : i < l.length) : l = l.take i ++ ([l[i]] ++ l.drop (i + 1)) := by
 rw [List.singleton_append, ← List.drop_eq_getElem_cons h, List.take_append_drop]
theorem szL_with {l : List Fm} {i : Nat} (h : i < l.length) (more : List Fm) : szL (withL l i more) + (1 + szL l[i].kids) = szL l + szL more := by
 have e : szL l = szL (l.take i) + ((1 + szL l[i].kids) + szL (l.drop (i + 1))) := by
  rw [← szL_one, ← szL_app, ← szL_app, ← split_at h]
 unfold withL
 rw [szL_app, szL_app, e]; omega
theorem mem_with {l : List Fm} {i : Nat} (h : i < l.length) {more : List Fm} {x : Fm} : x ∈ withL l i more → x ∈ l ∨ x ∈ more := by
 unfold withL
 simp only [List.mem_append]
 rintro (h1 | h1 | h1)
 ·exact .inl (List.mem_of_mem_take h1)
 ·exact .inl (List.mem_of_mem_drop h1)
 ·exact .inr h1
theorem perm_with {l : List Fm} {i : Nat} (h : i < l.length) (more : List Fm) : (withL l i more).Perm (l.erase l[i] ++ more) := by
 have h1 : l.Perm (l[i] :: (l.take i ++ l.drop (i + 1))) := by
  have := split_at h
  refine (List.Perm.of_eq this).trans ?_
  rw [List.singleton_append]
  exact List.perm_middle
 have h2 := h1.erase l[i]
 rw [List.erase_cons_head] at h2
 unfold withL
 rw [← List.append_assoc]
 exact h2.symm.append_right more
theorem len_with {l : List Fm} {i : Nat} (h : i < l.length) (more : List Fm) : (withL l i more).length + 1 = l.length + more.length := by
 unfold withL; simp only [List.length_append, List.length_take, List.length_drop]; omega
theorem szL_two (a b : Fm) : szL [a, b] = szL [a] + szL [b] := szL_app [a] [b]
theorem szL_pos (a : Fm) : 1 ≤ szL [a] := by rw [szL_one]; omega
theorem mv_size {l r : List Fm} {m : ByteArray × Fm × List Prem} (h : Mv l r m) : ∀ q ∈ m.2.2, szL q.1 + szL q.2 < szL l + szL r ∧ q.1.length + q.2.length ≤ l.length + r.length + 1 := by
 cases h with
 | andL i hi a b hk hs => intro q hq; have h1 := szL_with hi [a, b]; have h2 := len_with hi [a, b]; rw [hs] at h1; simp at hq; subst hq; simp at h2; constructor <;> dsimp only <;> omega
 | notL i hi a hk hs =>
  intro q hq; have h1 := szL_with hi []; have h2 := len_with hi []; rw [hs] at h1; simp at hq h2; subst hq
  have := szL_app r [a]
  have e : szL [] = 0 := by simp [szL, pres_nil]
  simp; constructor <;> omega
 | orR i hi a b hk hs => intro q hq; have h1 := szL_with hi [a, b]; have h2 := len_with hi [a, b]; rw [hs] at h1; simp at hq; subst hq; simp at h2; constructor <;> dsimp only <;> omega
 | notR i hi a hk hs =>
  intro q hq; have h1 := szL_with hi []; have h2 := len_with hi []; rw [hs] at h1; simp at hq h2; subst hq
  have := szL_app l [a]
  have e : szL [] = 0 := by simp [szL, pres_nil]
  simp; constructor <;> omega
 | thenR i hi a b hk hs =>
  intro q hq; have h1 := szL_with hi [b]; have h2 := len_with hi [b]; rw [hs, szL_two] at h1; simp at hq; subst hq; simp at h2
  have := szL_app l [a]; simp; constructor <;> omega
 | andR i hi a b hk hs =>
  intro q hq; have h1 := szL_with hi [a]; have h2 := len_with hi [a]; have h3 := szL_with hi [b]; have h4 := len_with hi [b]; rw [hs, szL_two] at h1 h3; simp at hq h2 h4
  have := szL_pos a; have := szL_pos b
  rcases hq with rfl | rfl <;> dsimp only <;> constructor <;> omega
 | orL i hi a b hk hs =>
  intro q hq; have h1 := szL_with hi [a]; have h2 := len_with hi [a]; have h3 := szL_with hi [b]; have h4 := len_with hi [b]; rw [hs, szL_two] at h1 h3; simp at hq h2 h4
  have := szL_pos a; have := szL_pos b
  rcases hq with rfl | rfl <;> dsimp only <;> constructor <;> omega
 | thenL i hi a b hk hs =>
  intro q hq; have h1 := szL_with hi []; have h2 := len_with hi []; have h3 := szL_with hi [b]; have h4 := len_with hi [b]; rw [hs, szL_two] at h1 h3; simp at hq h2 h4
  have := szL_pos a; have := szL_pos b; have := szL_app r [a]
  have e : szL [] = 0 := by simp [szL, pres_nil]
  rcases hq with rfl | rfl <;> simp <;> constructor <;> omega
theorem mv_all {P : Fm → Prop} (hK : ∀ f, P f → ∀ g ∈ f.kids, P g) {l r : List Fm} {m : ByteArray × Fm × List Prem} (h : Mv l r m) (hl : ∀ f ∈ l, P f) (hr : ∀ f ∈ r, P f) : ∀ q ∈ m.2.2, (∀ f ∈ q.1, P f) ∧ ∀ f ∈ q.2, P f := by
 have kl : ∀ (i : Nat) (hi : i < l.length) (x : Fm), x ∈ l[i].kids → P x := fun i hi x hx => hK _ (hl _ (List.getElem_mem hi)) x hx
 have kr : ∀ (i : Nat) (hi : i < r.length) (x : Fm), x ∈ r[i].kids → P x := fun i hi x hx => hK _ (hr _ (List.getElem_mem hi)) x hx
 have wl : ∀ (i : Nat) (hi : i < l.length) (more : List Fm), (∀ x ∈ more, P x) → ∀ x ∈ withL l i more, P x := fun i hi more hm x hx => (mem_with hi hx).elim (hl x) (hm x)
 have wr : ∀ (i : Nat) (hi : i < r.length) (more : List Fm), (∀ x ∈ more, P x) → ∀ x ∈ withL r i more, P x := fun i hi more hm x hx => (mem_with hi hx).elim (hr x) (hm x)
 have al : ∀ a : Fm, P a → ∀ x ∈ l ++ [a], P x := fun a ha x hx => (List.mem_append.1 hx).elim (hl x) fun h => by rw [List.mem_singleton.1 h]; exact ha
 have ar : ∀ a : Fm, P a → ∀ x ∈ r ++ [a], P x := fun a ha x hx => (List.mem_append.1 hx).elim (hr x) fun h => by rw [List.mem_singleton.1 h]; exact ha
 have one : ∀ a : Fm, P a → ∀ x ∈ [a], P x := fun a ha x hx => by rw [List.mem_singleton.1 hx]; exact ha
 have nil : ∀ x ∈ ([] : List Fm), P x := fun x hx => nomatch hx
 cases h with
 | andL i hi a b hk hs => intro q hq; simp at hq; subst hq; exact ⟨wl i hi _ fun x hx => kl i hi x (by rw [hs]; exact hx), hr⟩
 | notL i hi a hk hs => intro q hq; simp at hq; subst hq; exact ⟨wl i hi _ nil, ar a (kl i hi a (by rw [hs]; simp))⟩
 | orR i hi a b hk hs => intro q hq; simp at hq; subst hq; exact ⟨hl, wr i hi _ fun x hx => kr i hi x (by rw [hs]; exact hx)⟩
 | notR i hi a hk hs => intro q hq; simp at hq; subst hq; exact ⟨al a (kr i hi a (by rw [hs]; simp)), wr i hi _ nil⟩
 | thenR i hi a b hk hs => intro q hq; simp at hq; subst hq; exact ⟨al a (kr i hi a (by rw [hs]; simp)), wr i hi _ (one b (kr i hi b (by rw [hs]; simp)))⟩
 | andR i hi a b hk hs =>
  intro q hq; simp at hq
  rcases hq with rfl | rfl
  ·exact ⟨hl, wr i hi _ (one a (kr i hi a (by rw [hs]; simp)))⟩
  ·exact ⟨hl, wr i hi _ (one b (kr i hi b (by rw [hs]; simp)))⟩
 | orL i hi a b hk hs =>
  intro q hq; simp at hq
  rcases hq with rfl | rfl
  ·exact ⟨wl i hi _ (one a (kl i hi a (by rw [hs]; simp))), hr⟩
  ·exact ⟨wl i hi _ (one b (kl i hi b (by rw [hs]; simp))), hr⟩
 | thenL i hi a b hk hs =>
  intro q hq; simp at hq
  rcases hq with rfl | rfl
  ·exact ⟨wl i hi _ nil, ar a (kl i hi a (by rw [hs]; simp))⟩
  ·exact ⟨wl i hi _ (one b (kl i hi b (by rw [hs]; simp))), hr⟩
theorem mv_pl {l r : List Fm} {m : ByteArray × Fm × List Prem} (h : Mv l r m) (hl : ∀ f ∈ l, Pl f) (hr : ∀ f ∈ r, Pl f) : ∀ q ∈ m.2.2, (∀ f ∈ q.1, Pl f) ∧ ∀ f ∈ q.2, Pl f := mv_all (fun f hf g hg => hf.kid hg) h hl hr
theorem pl_ar {f : Fm} (h : Pl f) : Ar f := by
 rcases h.seven with ⟨nm, _, rfl⟩ | rfl | rfl | ⟨a, _, rfl⟩ | ⟨a, b, _, _, rfl⟩ | ⟨a, b, _, _, rfl⟩ | ⟨a, b, _, _, rfl⟩ <;> constructor <;> simp
theorem growL_n {g : List Fm → List Fm → Nat → GR} {N : Nat} : ∀ {qs : List Prem} {n : Nat} {acc ks : List Pf}, (∀ q ∈ qs, ∀ n p, (g q.1 q.2 n).ok = some p → (g q.1 q.2 n).n ≤ N) → n ≤ N → (growL g qs n acc).ok = some ks → (growL g qs n acc).n ≤ N
 | [], n, _, _, _, hn, _ => hn
 | q :: qs, n, acc, ks, hg, hn, h => by
  rw [growL] at h ⊢
  cases hok : (g q.1 q.2 n).ok with
  | none => rw [hok] at h; cases h
  | some x =>
   rw [hok] at h
   exact growL_n (fun q hq => hg q (.tail _ hq)) (hg q (.head _) n x hok) h
theorem growF_n : ∀ (k : Nat) (l r : List Fm) (d : Int) (n : Nat) (p : Pf), (growF k l r d n).ok = some p → (growF k l r d n).n ≤ 20000 ∧ (growF k l r d n).cnt = none := by
 intro k
 induction k with
 | zero => intro l r d n p h; rw [growF] at h; cases h
 | succ k ih =>
  intro l r d n p h
  rw [growF] at h ⊢
  split at h
  ·cases h
  ·rename_i h1
   rw [if_neg h1]
   split at h
   ·exact ⟨by dsimp only; omega, rfl⟩
   ·split at h
    ·split at h
     ·rename_i ks hks
      exact ⟨growL_n (fun q _ n p hp => (ih q.1 q.2 (d + 1) n p hp).1) (by omega) hks, rfl⟩
     ·cases h
    ·cases h
end Go.Proofs.Ytnoklmapofogeaa
namespace Go.Proofs.Ytnoklmapofogeaa
open Go Go.Pv
def PermP : List Prem → List Prem → Prop
 | [], [] => True
 | p :: ps, q :: qs => p.1.Perm q.1 ∧ p.2.Perm q.2 ∧ PermP ps qs
 | _, _ => False
structure Turn (σ : Fm → Fm) : Prop where
 k2 : ∀ f, Pl f → f.kind ≠ 1 → (σ f).kind = f.kind ∧ (σ f).kids = f.kids.map σ
 none : ∀ f, noneF f = true → noneF (σ f) = true
theorem Turn.id : Turn id := ⟨fun f _ _ => ⟨rfl, by simp⟩, fun f h => h⟩
section
variable {σ : Fm → Fm} {e : List Fm} {f : Fm} {l r : List Fm}
end
theorem PermP.len : ∀ {a b : List Prem}, PermP a b → a.length = b.length
 | [], [], _ => rfl
 | _ :: _, _ :: _, h => by simp [PermP.len h.2.2]
 | [], _ :: _, h => h.elim
 | _ :: _, [], h => h.elim
mutual
def stepsP : Pf → List Pf
 | .mk a f l r ks => .mk a f l r ks :: stepsPs ks
def stepsPs : List Pf → List Pf
 | [] => []
 | p :: r => stepsP p ++ stepsPs r
end
theorem stepsPs_eq (l : List Pf) : stepsPs l = l.flatMap stepsP := by
 induction l with
 | nil => rfl
 | cons p r ih => rw [stepsPs, ih]; rfl
theorem stepsP_eq (p : Pf) : stepsP p = p :: p.kids.flatMap stepsP := by
 cases p with | mk a f l r ks => rw [stepsP, stepsPs_eq]; rfl
end Go.Proofs.Ytnoklmapofogeaa
