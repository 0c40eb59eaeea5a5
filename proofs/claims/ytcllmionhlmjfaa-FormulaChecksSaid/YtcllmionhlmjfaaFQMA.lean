import Derived.Test.YtcllmionhlmjfaaFFormB
import Derived.Test.YtcllmionhlmjfaaFModE
import Derived.Test.YtcllmionhlmjfaaFPvRec
import Derived.Test.YtcllmionhlmjfaaFPvQg
set_option linter.unusedVariables false
set_option linter.unusedSimpArgs false
set_option linter.unusedSectionVars false
set_option maxRecDepth 100000
set_option maxHeartbeats 4000000
namespace Go.Proofs.Ytcllmionhlmjfaa
open Go Go.Pv
inductive OkF (N : ByteArray → Prop) : Fm → Prop where
 | mk {k : Int} {nm : ByteArray} {kids : List Fm} (h : (kids.length : Int) = kidsN k) (hN : k = 1 → N nm) (g : ∀ f ∈ kids, OkF N f) : OkF N (.mk k nm kids)
mutual
def pre : Fm → List Fm
 | .mk k nm l => .mk k nm l :: pres l
def pres : List Fm → List Fm
 | [] => []
 | f :: r => pre f ++ pres r
end
theorem pre_eq (f : Fm) : pre f = f :: pres f.kids := by cases f with | mk k nm l => rw [pre]; rfl
theorem pres_nil : pres [] = [] := by rw [pres]
theorem pres_cons (f : Fm) (r : List Fm) : pres (f :: r) = pre f ++ pres r := by rw [pres]
theorem pres_append (a b : List Fm) : pres (a ++ b) = pres a ++ pres b := by
 induction a with
 | nil => simp [pres_nil]
 | cons f r ih => simp [pres_cons, ih]
theorem pres_head (x : Fm) (r : List Fm) : pres (x :: r) = x :: pres (x.kids ++ r) := by rw [pres_cons, pre_eq, pres_append]; rfl
theorem nodesGo_succ (M n : Nat) (x : Fm) (r : List Fm) : nodesGo M (n + 1) (x :: r) = x :: nodesGo M n (x.kids.take M ++ r) := rfl
theorem nodesGo_nil (M n : Nat) : nodesGo M n [] = [] := by cases n <;> rfl
theorem nodesGo_short (M : Nat) : ∀ (n : Nat) (st : List Fm), (nodesGo M n st).length < n → (∀ x ∈ nodesGo M n st, x.kids.length ≤ M) → nodesGo M n st = pres st := by
 intro n
 induction n with
 | zero => intro st h; omega
 | succ n ih =>
  intro st h g
  cases st with
  | nil => rw [nodesGo_nil, pres_nil]
  | cons x r =>
   rw [nodesGo_succ] at h g ⊢
   have hx := g x (by simp)
   rw [List.take_of_length_le hx] at h g ⊢
   rw [pres_head, ih _ (by simpa using h) fun y hy => g y (by simp [hy])]
theorem nodesGo_long (M : Nat) : ∀ (n : Nat) (st : List Fm), (pres st).length ≤ n → (∀ x ∈ pres st, x.kids.length ≤ M) → nodesGo M n st = pres st := by
 intro n
 induction n with
 | zero =>
  intro st h g
  cases st with
  | nil => rw [nodesGo_nil, pres_nil]
  | cons x r => rw [pres_head] at h; simp at h
 | succ n ih =>
  intro st h g
  cases st with
  | nil => rw [nodesGo_nil, pres_nil]
  | cons x r =>
   rw [pres_head] at h g ⊢
   have hx := g x (by simp)
   rw [nodesGo_succ, List.take_of_length_le hx, ih _ (by simpa using h) fun y hy => g y (by simp [hy])]
def okN (x : Fm) : Prop := 0 ≤ kidsN x.kind ∧ (x.kids.length : Int) = kidsN x.kind ∧ ¬ ((x.kind = 1 ∧ isNameB x.name = false) ∨ (x.kind ≠ 1 ∧ x.name ≠ ⟨#[]⟩))
theorem okN_kids {x : Fm} (h : okN x) : x.kids.length ≤ 201 := by
 have := h.2.1
 unfold kidsN at this
 (repeat' split at this) <;> omega
theorem checkNodes_some : ∀ (l : List Fm) (i : Int) (x : Int × Int), checkNodes l i = some x → x.1 ≠ 0 := by
 intro l
 induction l with
 | nil => intro i x h; simp [checkNodes] at h
 | cons p r ih =>
  intro i x h
  rw [checkNodes] at h
  (repeat' split at h) <;> first | (cases h; simp; done) | exact ih _ _ h
theorem checkNodes_iff : ∀ (l : List Fm) (i : Int), i ≤ 200 → (checkNodes l i = none ↔ (∀ x ∈ l, okN x) ∧ i + l.length ≤ 200) := by
 intro l
 induction l with
 | nil => intro i hi; simp [checkNodes]; exact hi
 | cons x r ih =>
  intro i hi
  rw [checkNodes]
  by_cases h1 : i = 200
  ·rw [if_pos h1]; simp; omega
  ·rw [if_neg h1]
   by_cases h2 : kidsN x.kind < 0
   ·rw [if_pos h2]; simp only [reduceCtorEq, false_iff]; intro ⟨h, _⟩; have := (h x (by simp)).1; omega
   ·rw [if_neg h2]
    by_cases h3 : (x.kids.length : Int) ≠ kidsN x.kind
    ·rw [if_pos h3]; simp only [reduceCtorEq, false_iff]; intro ⟨h, _⟩; exact h3 (h x (by simp)).2.1
    ·rw [if_neg h3]
     by_cases h4 : (x.kind = 1 ∧ isNameB x.name = false) ∨ (x.kind ≠ 1 ∧ x.name ≠ ⟨#[]⟩)
     ·rw [if_pos h4]; simp only [reduceCtorEq, false_iff]; intro ⟨h, _⟩; exact (h x (by simp)).2.2 h4
     ·rw [if_neg h4, ih (i + 1) (by omega)]
      have hx : okN x := ⟨by omega, Decidable.not_not.1 h3, h4⟩
      simp only [List.mem_cons, forall_eq_or_imp, hx, true_and, List.length_cons]
      constructor
      ·rintro ⟨a, b⟩; exact ⟨a, by omega⟩
      ·rintro ⟨a, b⟩; exact ⟨a, by omega⟩
theorem formulaCheck_zero {f : Fm} (h : (formulaCheck f).1 = 0) : formulaCheck f = (0, 0) := by
 unfold formulaCheck at h ⊢
 cases hc : checkNodes (nodesGo 201 201 [f]) 0 with
 | none => rfl
 | some x => rw [hc] at h; exact absurd h (checkNodes_some _ _ _ hc)
theorem formulaCheck_iff (f : Fm) : (formulaCheck f).1 = 0 ↔ (∀ x ∈ pre f, okN x) ∧ (pre f).length ≤ 200 := by
 have hp : pres [f] = pre f := by rw [pres_cons, pres_nil, List.append_nil]
 constructor
 ·intro h
  unfold formulaCheck at h
  cases hc : checkNodes (nodesGo 201 201 [f]) 0 with
  | some x => rw [hc] at h; exact absurd h (checkNodes_some _ _ _ hc)
  | none =>
   rw [checkNodes_iff _ 0 (by omega)] at hc
   have hn := nodesGo_short 201 201 [f] (by omega) fun x hx => okN_kids (hc.1 x hx)
   rw [hn, hp] at hc
   exact ⟨hc.1, by omega⟩
 ·rintro ⟨h1, h2⟩
  have hn := nodesGo_long 201 201 [f] (by rw [hp]; omega) (by rw [hp]; exact fun x hx => okN_kids (h1 x hx))
  have hc : checkNodes (nodesGo 201 201 [f]) 0 = none := by
   rw [checkNodes_iff _ 0 (by omega), hn, hp]; exact ⟨h1, by omega⟩
  unfold formulaCheck; rw [hc]; rfl
def of1 (k : Int) (f : Fm) : Fm := .mk k ⟨#[]⟩ [f]
def of2 (k : Int) (f g : Fm) : Fm := .mk k ⟨#[]⟩ [f, g]
theorem pre_of1 (k : Int) (f : Fm) : pre (of1 k f) = of1 k f :: pre f := by rw [pre_eq]; simp [of1, Fm.kids, pres_cons, pres_nil]
theorem pre_of2 (k : Int) (f g : Fm) : pre (of2 k f g) = of2 k f g :: (pre f ++ pre g) := by rw [pre_eq]; simp [of2, Fm.kids, pres_cons, pres_nil]
theorem ok_of1 {k : Int} {f : Fm} (h : k = 4 ∨ k = 8 ∨ k = 9) : okN (of1 k f) := by
 rcases h with rfl | rfl | rfl <;> simp [okN, of1, Fm.kind, Fm.kids, Fm.name, kidsN]
theorem ok_of2 {k : Int} {f g : Fm} (h : k = 5 ∨ k = 6 ∨ k = 7) : okN (of2 k f g) := by
 rcases h with rfl | rfl | rfl <;> simp [okN, of2, Fm.kind, Fm.kids, Fm.name, kidsN]
theorem okF_of_pre : ∀ f : Fm, (∀ x ∈ pre f, okN x) → OkF (fun n => isNameB n = true) f := by
 intro f
 induction f using Fm.ind with
 | h f ih =>
  intro h
  have h0 := h f (by rw [pre_eq]; simp)
  cases f with
  | mk k nm l =>
   refine .mk h0.2.1 (fun hk => ?_) fun g hg => ih g hg fun x hx => h x ?_
   ·have := h0.2.2
    simp only [Fm.kind, Fm.name, hk, true_and, not_or] at this
    simpa using this.1
   ·rw [pre_eq]
    refine List.mem_cons_of_mem _ ?_
    have : ∀ l : List Fm, g ∈ l → x ∈ pres l := by
     intro l
     induction l with
     | nil => intro h; cases h
     | cons a r ihr =>
      intro h
      rw [pres_cons, List.mem_append]
      cases h with
      | head => exact .inl hx
      | tail _ h => exact .inr (ihr h)
    exact this l hg
end Go.Proofs.Ytcllmionhlmjfaa
namespace Go.Proofs.Ytcllmionhlmjfaa
open Go Go.Pv
theorem OkF.nine {N : ByteArray → Prop} {f : Fm} (h : OkF N f) : (∃ nm, N nm ∧ f = .mk 1 nm []) ∨ (∃ nm, f = .mk 2 nm []) ∨ (∃ nm, f = .mk 3 nm []) ∨ (∃ nm a, OkF N a ∧ f = .mk 4 nm [a]) ∨ (∃ nm a b, OkF N a ∧ OkF N b ∧ f = .mk 5 nm [a, b]) ∨
  (∃ nm a b, OkF N a ∧ OkF N b ∧ f = .mk 6 nm [a, b]) ∨ (∃ nm a b, OkF N a ∧ OkF N b ∧ f = .mk 7 nm [a, b]) ∨ (∃ nm a, OkF N a ∧ f = .mk 8 nm [a]) ∨ (∃ nm a, OkF N a ∧ f = .mk 9 nm [a]) := by
 cases h with
 | mk h hN g =>
  rename_i k nm l
  unfold kidsN at h
  have hk : k = 1 ∨ k = 2 ∨ k = 3 ∨ k = 4 ∨ k = 5 ∨ k = 6 ∨ k = 7 ∨ k = 8 ∨ k = 9 := by
   (repeat' split at h) <;> omega
  rcases hk with rfl | rfl | rfl | rfl | rfl | rfl | rfl | rfl | rfl <;> simp at h
  ·subst h; exact .inl ⟨nm, hN rfl, rfl⟩
  ·subst h; exact .inr (.inl ⟨nm, rfl⟩)
  ·subst h; exact .inr (.inr (.inl ⟨nm, rfl⟩))
  ·match l, h with | [a], _ => exact .inr (.inr (.inr (.inl ⟨nm, a, g a (by simp), rfl⟩)))
  ·match l, h with | [a, b], _ => exact .inr (.inr (.inr (.inr (.inl ⟨nm, a, b, g a (by simp), g b (by simp), rfl⟩))))
  ·match l, h with | [a, b], _ => exact .inr (.inr (.inr (.inr (.inr (.inl ⟨nm, a, b, g a (by simp), g b (by simp), rfl⟩)))))
  ·match l, h with | [a, b], _ => exact .inr (.inr (.inr (.inr (.inr (.inr (.inl ⟨nm, a, b, g a (by simp), g b (by simp), rfl⟩))))))
  ·match l, h with | [a], _ => exact .inr (.inr (.inr (.inr (.inr (.inr (.inr (.inl ⟨nm, a, g a (by simp), rfl⟩)))))))
  ·match l, h with | [a], _ => exact .inr (.inr (.inr (.inr (.inr (.inr (.inr (.inr ⟨nm, a, g a (by simp), rfl⟩)))))))
theorem take_snoc {α : Type} {l : List α} {i : Nat} (h : i < l.length) : l.take (i + 1) = l.take i ++ [l[i]] := by
 rw [List.take_add_one, List.getElem?_eq_getElem h]; rfl
theorem OkF.kid {N : ByteArray → Prop} {f g : Fm} (h : OkF N f) (hg : g ∈ f.kids) : OkF N g := by
 cases h with | mk a b c => exact c g hg
def eqL (r : Fm → Fm → Bool) : List Fm → List Fm → Bool
 | [], [] => true
 | a :: xs, b :: bs => r a b && eqL r xs bs
 | _, _ => false
theorem eqL_len {r : Fm → Fm → Bool} : ∀ {xs bs : List Fm}, xs.length ≠ bs.length → eqL r xs bs = false
 | [], [], h => absurd rfl h
 | [], _ :: _, _ => rfl
 | _ :: _, [], _ => rfl
 | a :: xs, b :: bs, h => by rw [eqL, eqL_len (xs := xs) (bs := bs) (by simpa using h), Bool.and_false]
theorem eqL_drop {r : Fm → Fm → Bool} {xs bs : List Fm} {i : Nat} (h : i < xs.length) (h' : i < bs.length) : eqL r (xs.drop i) (bs.drop i) = (r xs[i] bs[i] && eqL r (xs.drop (i + 1)) (bs.drop (i + 1))) := by
 rw [List.drop_eq_getElem_cons h, List.drop_eq_getElem_cons h', eqL]
noncomputable def sameB (f g : Fm) : Bool := @decide (f = g) (Classical.propDecidable _)
theorem sameB_iff {f g : Fm} : sameB f g = true ↔ f = g := by simp [sameB]
theorem eqL_same : ∀ xs bs : List Fm, eqL sameB xs bs = true ↔ xs = bs
 | [], [] => by simp [eqL]
 | [], _ :: _ => by simp [eqL]
 | _ :: _, [] => by simp [eqL]
 | a :: xs, b :: bs => by simp [eqL, sameB_iff, eqL_same xs bs]
theorem sameB_eq (f g : Fm) : sameB f g = (decide (f.kind = g.kind) && decide (f.name = g.name) && eqL sameB f.kids g.kids) := by
 rw [Bool.eq_iff_iff, sameB_iff, Bool.and_eq_true, Bool.and_eq_true, decide_eq_true_iff, decide_eq_true_iff, eqL_same]
 cases f; cases g
 simp [and_assoc]
theorem pres_mem {x g : Fm} (hx : x ∈ pre g) : ∀ l : List Fm, g ∈ l → x ∈ pres l
 | a :: r, h => by
  rw [pres_cons, List.mem_append]
  cases h with
  | head => exact .inl hx
  | tail _ h => exact .inr (pres_mem hx r h)
theorem mem_pres {x : Fm} : ∀ l : List Fm, x ∈ pres l → ∃ g ∈ l, x ∈ pre g
 | [], h => by rw [pres_nil] at h; cases h
 | a :: r, h => by
  rw [pres_cons, List.mem_append] at h
  rcases h with h | h
  ·exact ⟨a, by simp, h⟩
  ·obtain ⟨g, h1, h2⟩ := mem_pres r h; exact ⟨g, by simp [h1], h2⟩
theorem pres_len {g : Fm} : ∀ l : List Fm, g ∈ l → (pre g).length ≤ (pres l).length
 | a :: r, h => by
  rw [pres_cons, List.length_append]
  cases h with
  | head => omega
  | tail _ h => have := pres_len r h; omega
theorem pre_sub {N : ByteArray → Prop} (f : Fm) (hf : OkF N f) : ∀ x ∈ pre f, OkF N x ∧ (pre x).length ≤ (pre f).length ∧ ∀ y ∈ pre x, y ∈ pre f := by
 induction f using Fm.ind with
 | h f ih =>
  intro x hx
  rw [pre_eq] at hx
  cases hx with
  | head => exact ⟨hf, Nat.le_refl _, fun y h => h⟩
  | tail _ hx =>
   obtain ⟨g, h1, h2⟩ := mem_pres _ hx
   obtain ⟨h3, h4, h5⟩ := ih g h1 (hf.kid h1) x h2
   refine ⟨h3, ?_, fun y hy => ?_⟩
   ·have := pres_len _ h1
    rw [pre_eq f]; simp; omega
   ·rw [pre_eq f]; exact List.mem_cons_of_mem _ (pres_mem (h5 y hy) _ h1)
def Td (f : Fm) : Prop := ∀ x ∈ pre f, okN x
theorem Td.kid {f g : Fm} (h : Td f) (hg : g ∈ f.kids) : Td g := fun x hx => h x (by rw [pre_eq]; exact List.mem_cons_of_mem _ (pres_mem hx _ hg))
theorem Td.ok {f : Fm} (h : Td f) : OkF (fun n => isNameB n = true) f := okF_of_pre f h
theorem Td.nine {f : Fm} (h : Td f) : (∃ nm, isNameB nm = true ∧ f = .mk 1 nm []) ∨ (f = .mk 2 ⟨#[]⟩ []) ∨ (f = .mk 3 ⟨#[]⟩ []) ∨ (∃ a, Td a ∧ f = .mk 4 ⟨#[]⟩ [a]) ∨ (∃ a b, Td a ∧ Td b ∧ f = .mk 5 ⟨#[]⟩ [a, b]) ∨
  (∃ a b, Td a ∧ Td b ∧ f = .mk 6 ⟨#[]⟩ [a, b]) ∨ (∃ a b, Td a ∧ Td b ∧ f = .mk 7 ⟨#[]⟩ [a, b]) ∨ (∃ a, Td a ∧ f = .mk 8 ⟨#[]⟩ [a]) ∨ (∃ a, Td a ∧ f = .mk 9 ⟨#[]⟩ [a]) := by
 have hn := (h f (by rw [pre_eq]; exact List.mem_cons_self)).2.2
 rcases h.ok.nine with ⟨nm, hN, rfl⟩ | ⟨nm, rfl⟩ | ⟨nm, rfl⟩ | ⟨nm, a, ha, rfl⟩ | ⟨nm, a, b, ha, hb, rfl⟩ | ⟨nm, a, b, ha, hb, rfl⟩ | ⟨nm, a, b, ha, hb, rfl⟩ | ⟨nm, a, ha, rfl⟩ | ⟨nm, a, ha, rfl⟩
 all_goals simp only [Fm.kind, Fm.name] at hn
 ·exact .inl ⟨nm, hN, rfl⟩
 all_goals obtain rfl : nm = ⟨#[]⟩ := by (refine Classical.byContradiction fun g => hn (.inr ⟨by decide, g⟩))
 ·exact .inr (.inl rfl)
 ·exact .inr (.inr (.inl rfl))
 ·exact .inr (.inr (.inr (.inl ⟨a, h.kid (by simp [Fm.kids]), rfl⟩)))
 ·exact .inr (.inr (.inr (.inr (.inl ⟨a, b, h.kid (by simp [Fm.kids]), h.kid (by simp [Fm.kids]), rfl⟩))))
 ·exact .inr (.inr (.inr (.inr (.inr (.inl ⟨a, b, h.kid (by simp [Fm.kids]), h.kid (by simp [Fm.kids]), rfl⟩)))))
 ·exact .inr (.inr (.inr (.inr (.inr (.inr (.inl ⟨a, b, h.kid (by simp [Fm.kids]), h.kid (by simp [Fm.kids]), rfl⟩))))))
 ·exact .inr (.inr (.inr (.inr (.inr (.inr (.inr (.inl ⟨a, h.kid (by simp [Fm.kids]), rfl⟩)))))))
 ·exact .inr (.inr (.inr (.inr (.inr (.inr (.inr (.inr ⟨a, h.kid (by simp [Fm.kids]), rfl⟩)))))))
theorem Td.pre {f x : Fm} (h : Td f) (hx : x ∈ pre f) : Td x := fun y hy => h y ((pre_sub f h.ok x hx).2.2 y hy)
section
variable {n : Nat} {t : Nat → Nat → Bool} {hold : Nat → ByteArray → Bool} {w : Nat} {nm : ByteArray} {l : List Fm} {a b : Fm}
end
theorem td_check {f : Fm} (h : (formulaCheck f).1 = 0) : Td f := ((formulaCheck_iff f).1 h).1
def refFault (f : Fm) : Int × Int := (checkNodes (walkL f 201) 0).getD (0, 0)
theorem walkK_take (l : List Fm) (ih : ∀ f ∈ l, ∀ m : Nat, walkL f (m : Int) = (pre f).take (m + 1)) : ∀ (out : List Fm) (m : Nat), out.length ≤ m + 1 → walkK l out (m : Int) = (out ++ pres l).take (m + 1) := by
 induction l with
 | nil => intro out m h; rw [walkK, pres_nil, List.append_nil, List.take_of_length_le h]
 | cons f r ih2 =>
  intro out m h
  rw [walkK]
  split
  ·rename_i h1
   have hm : (m : Int) - out.length = ((m - out.length : Nat) : Int) := by omega
   rw [hm, ih f (by simp), ih2 (fun g hg => ih g (by simp [hg])) _ _ (by simp; omega), pres_cons]
   rw [List.append_assoc, List.take_append, List.take_append, List.take_append, List.take_append, List.take_take, List.length_take]
   have e1 : min (m + 1 - out.length) (m - out.length + 1) = m + 1 - out.length := by omega
   have e2 : m + 1 - out.length - min (m - out.length + 1) (pre f).length = m + 1 - out.length - (pre f).length := by omega
   rw [e1, e2]
  ·rw [List.take_append, List.take_of_length_le h, show m + 1 - out.length = 0 by omega, List.take_zero, List.append_nil]
theorem walk_take (f : Fm) : ∀ m : Nat, walkL f (m : Int) = (pre f).take (m + 1) := by
 induction f using Fm.ind with
 | h f ih => intro m; rw [walkL_eq, walkK_take _ ih [f] m (by simp), pre_eq]; rfl
theorem pres_ge : ∀ l : List Fm, l.length ≤ (pres l).length
 | [] => by simp
 | f :: r => by rw [pres_cons, pre_eq]; have := pres_ge r; simp; omega
theorem nodesGo_take (M : Nat) : ∀ (n : Nat) (st : List Fm), n ≤ M + 1 → nodesGo M n st = (pres st).take n := by
 intro n
 induction n with
 | zero => intro st h; rw [List.take_zero]; cases st <;> rfl
 | succ n ih =>
  intro st h
  cases st with
  | nil => rw [nodesGo_nil, pres_nil]; rfl
  | cons x r =>
   rw [nodesGo_succ, ih _ (by omega), pres_head, List.take_succ_cons]
   congr 1
   by_cases hx : x.kids.length ≤ M
   ·rw [List.take_of_length_le hx]
   ·have e : pres (x.kids ++ r) = pres (x.kids.take M) ++ (pres (x.kids.drop M) ++ pres r) := by
     rw [← List.append_assoc, ← pres_append, List.take_append_drop, pres_append]
    have hl : n ≤ (pres (x.kids.take M)).length := by
     have := pres_ge (x.kids.take M); rw [List.length_take] at this; omega
    rw [e, pres_append, List.take_append_of_le_length hl, List.take_append_of_le_length hl]
theorem checkNodes_take : ∀ (l : List Fm) (n i : Nat), 201 ≤ i + n → i ≤ 200 → checkNodes (l.take n) (i : Int) = checkNodes l i := by
 intro l
 induction l with
 | nil => intro n i h1 h2; rw [List.take_nil]
 | cons x r ih =>
  intro n i h1 h2
  obtain ⟨n, rfl⟩ : ∃ k, n = k + 1 := ⟨n - 1, by omega⟩
  rw [List.take_succ_cons, checkNodes, checkNodes]
  by_cases h3 : (i : Int) = 200
  ·rw [if_pos h3, if_pos h3]
  ·have := ih n (i + 1) (by omega) (by omega)
   rw [if_neg h3, if_neg h3, show ((i : Int) + 1) = ((i + 1 : Nat) : Int) by omega, this]
theorem refFault_eq (f : Fm) : refFault f = formulaCheck f := by
 unfold refFault formulaCheck
 rw [show (201 : Int) = ((201 : Nat) : Int) from rfl, walk_take, nodesGo_take _ _ _ (by omega), pres_cons, pres_nil, List.append_nil]
 rw [show (0 : Int) = ((0 : Nat) : Int) from rfl, checkNodes_take _ _ _ (by omega) (by omega), checkNodes_take _ _ _ (by omega) (by omega)]
end Go.Proofs.Ytcllmionhlmjfaa
namespace Go.Proofs.Ytcllmionhlmjfaa
open Go Go.Pv
def x105 : XC := .seq (.reg [⟨some 2,.assign (.const (.int .i64 0)),none⟩]) (.seq (.seq (.reg [⟨some 3,.move (.tmp 0),none⟩]) (.block 0 (.seq (.reg [⟨some 5,.binOp .eql 3 (.tmp 3) (.const (.int .i64 7)) 3,none⟩,⟨some 4,.assign (.tmp 5),none⟩]) (.cond (.tmp 4) (.seq (.reg [⟨some 2,.assign (.const (.int .i64 1)),none⟩]) .ret) (.seq (.reg [⟨some 7,.binOp .eql 3 (.tmp 3) (.const (.int .i64 6)) 3,none⟩,⟨some 6,.assign (.tmp 7),none⟩]) (.cond (.tmp 6) (.seq (.reg [⟨some 2,.assign (.const (.int .i64 2)),none⟩]) .ret) (.seq (.reg [⟨some 9,.binOp .eql 3 (.tmp 3) (.const (.int .i64 5)) 3,none⟩,⟨some 8,.assign (.tmp 9),none⟩]) (.cond (.tmp 8) (.seq (.reg [⟨some 2,.assign (.const (.int .i64 3)),none⟩]) .ret) .skip)))))))) (.seq (.reg [⟨some 2,.assign (.const (.int .i64 4)),none⟩]) .ret))
@[simp] theorem x105_s {C e s K} : type_of% (@X_at C e s K _ _ x105.eq_1) := X_at x105.eq_1
def an105 : Ann := ⟨[], [], []⟩
theorem fi105 : FI Try.prog 105 (cxA an105) x105 [.tmp 2] Try.f105 := fiA Try.func105 mixed
def x79 : XC := .seq (.reg [⟨some 2,.box 24 (.tmp 0),none⟩,⟨some 4,.assign (.const (.string ⟨#[]⟩)),none⟩]) (.seq (.reg [⟨some 5,.assign (.const (.string ⟨#[]⟩)),none⟩]) (.seq (.reg [⟨some 7,.fieldAddr 24 (.tmp 2) 0,none⟩,⟨some 8,.load 3 (.tmp 7),none⟩,⟨some 9,.call ⟨.value (.func 105),#[.tmp 8],#[3]⟩,none⟩,⟨some 6,.assign (.tmp 9),none⟩]) (.seq (.seq (.reg [⟨some 10,.fieldAddr 24 (.tmp 2) 0,none⟩,⟨some 11,.load 3 (.tmp 10),none⟩]) (.block 0 (.seq (.reg [⟨some 13,.binOp .eql 3 (.tmp 11) (.const (.int .i64 1)) 3,none⟩,⟨some 12,.assign (.tmp 13),none⟩]) (.cond (.tmp 12) (.reg [⟨some 14,.fieldAddr 24 (.tmp 2) 1,none⟩,⟨some 15,.load 9 (.tmp 14),none⟩,⟨some 5,.assign (.tmp 15),none⟩]) (.seq (.reg [⟨some 17,.binOp .eql 3 (.tmp 11) (.const (.int .i64 2)) 3,none⟩,⟨some 16,.assign (.tmp 17),none⟩]) (.cond (.tmp 16) (.reg [⟨some 5,.assign (.const (.string ⟨#[49]⟩)),none⟩]) (.seq (.reg [⟨some 19,.binOp .eql 3 (.tmp 11) (.const (.int .i64 3)) 3,none⟩,⟨some 18,.assign (.tmp 19),none⟩]) (.cond (.tmp 18) (.reg [⟨some 5,.assign (.const (.string ⟨#[48]⟩)),none⟩]) (.seq (.reg [⟨some 21,.binOp .eql 3 (.tmp 11) (.const (.int .i64 4)) 3,none⟩,⟨some 20,.assign (.tmp 21),none⟩]) (.cond (.tmp 20) (.reg [⟨some 22,.fieldAddr 24 (.tmp 2) 2,none⟩,⟨some 23,.load 22 (.tmp 22),none⟩,⟨some 24,.indexAddr 22 (.tmp 23) (.const (.int .i64 0)),none⟩,⟨some 25,.load 24 (.tmp 24),none⟩,⟨some 26,.call ⟨.value (.func 79),#[.tmp 25,.const (.int .i64 4)],#[24,3]⟩,none⟩,⟨some 27,.binOp .add 9 (.const (.string ⟨#[126]⟩)) (.tmp 26) 9,none⟩,⟨some 5,.assign (.tmp 27),none⟩]) (.seq (.reg [⟨some 29,.binOp .eql 3 (.tmp 11) (.const (.int .i64 8)) 3,none⟩,⟨some 28,.assign (.tmp 29),none⟩]) (.cond (.tmp 28) (.reg [⟨some 30,.fieldAddr 24 (.tmp 2) 2,none⟩,⟨some 31,.load 22 (.tmp 30),none⟩,⟨some 32,.indexAddr 22 (.tmp 31) (.const (.int .i64 0)),none⟩,⟨some 33,.load 24 (.tmp 32),none⟩,⟨some 34,.call ⟨.value (.func 79),#[.tmp 33,.const (.int .i64 4)],#[24,3]⟩,none⟩,⟨some 35,.binOp .add 9 (.const (.string ⟨#[91,93]⟩)) (.tmp 34) 9,none⟩,⟨some 5,.assign (.tmp 35),none⟩]) (.seq (.reg [⟨some 37,.binOp .eql 3 (.tmp 11) (.const (.int .i64 9)) 3,none⟩,⟨some 36,.assign (.tmp 37),none⟩]) (.cond (.tmp 36) (.reg [⟨some 38,.fieldAddr 24 (.tmp 2) 2,none⟩,⟨some 39,.load 22 (.tmp 38),none⟩,⟨some 40,.indexAddr 22 (.tmp 39) (.const (.int .i64 0)),none⟩,⟨some 41,.load 24 (.tmp 40),none⟩,⟨some 42,.call ⟨.value (.func 79),#[.tmp 41,.const (.int .i64 4)],#[24,3]⟩,none⟩,⟨some 43,.binOp .add 9 (.const (.string ⟨#[60,62]⟩)) (.tmp 42) 9,none⟩,⟨some 5,.assign (.tmp 43),none⟩]) (.seq (.reg [⟨some 45,.binOp .eql 3 (.tmp 11) (.const (.int .i64 5)) 3,none⟩,⟨some 44,.assign (.tmp 45),none⟩]) (.cond (.tmp 44) (.drawn 17 [⟨some 46,.fieldAddr 24 (.tmp 2) 2,none⟩,⟨some 47,.load 22 (.tmp 46),none⟩,⟨some 48,.indexAddr 22 (.tmp 47) (.const (.int .i64 0)),none⟩,⟨some 49,.load 24 (.tmp 48),none⟩,⟨some 50,.call ⟨.value (.func 79),#[.tmp 49,.const (.int .i64 3)],#[24,3]⟩,none⟩,⟨some 51,.binOp .add 9 (.tmp 50) (.const (.string ⟨#[32,38,32]⟩)) 9,none⟩,⟨some 52,.fieldAddr 24 (.tmp 2) 2,none⟩,⟨some 53,.load 22 (.tmp 52),none⟩,⟨some 54,.indexAddr 22 (.tmp 53) (.const (.int .i64 1)),none⟩,⟨some 55,.load 24 (.tmp 54),none⟩,⟨some 56,.call ⟨.value (.func 79),#[.tmp 55,.const (.int .i64 4)],#[24,3]⟩,none⟩,⟨some 57,.binOp .add 9 (.tmp 51) (.tmp 56) 9,none⟩,⟨some 5,.assign (.tmp 57),none⟩]) (.seq (.reg [⟨some 59,.binOp .eql 3 (.tmp 11) (.const (.int .i64 6)) 3,none⟩,⟨some 58,.assign (.tmp 59),none⟩]) (.cond (.tmp 58) (.drawn 19 [⟨some 60,.fieldAddr 24 (.tmp 2) 2,none⟩,⟨some 61,.load 22 (.tmp 60),none⟩,⟨some 62,.indexAddr 22 (.tmp 61) (.const (.int .i64 0)),none⟩,⟨some 63,.load 24 (.tmp 62),none⟩,⟨some 64,.call ⟨.value (.func 79),#[.tmp 63,.const (.int .i64 2)],#[24,3]⟩,none⟩,⟨some 65,.binOp .add 9 (.tmp 64) (.const (.string ⟨#[32,124,32]⟩)) 9,none⟩,⟨some 66,.fieldAddr 24 (.tmp 2) 2,none⟩,⟨some 67,.load 22 (.tmp 66),none⟩,⟨some 68,.indexAddr 22 (.tmp 67) (.const (.int .i64 1)),none⟩,⟨some 69,.load 24 (.tmp 68),none⟩,⟨some 70,.call ⟨.value (.func 79),#[.tmp 69,.const (.int .i64 3)],#[24,3]⟩,none⟩,⟨some 71,.binOp .add 9 (.tmp 65) (.tmp 70) 9,none⟩,⟨some 5,.assign (.tmp 71),none⟩]) (.seq (.reg [⟨some 73,.binOp .eql 3 (.tmp 11) (.const (.int .i64 7)) 3,none⟩,⟨some 72,.assign (.tmp 73),none⟩]) (.cond (.tmp 72) (.drawn 21 [⟨some 74,.fieldAddr 24 (.tmp 2) 2,none⟩,⟨some 75,.load 22 (.tmp 74),none⟩,⟨some 76,.indexAddr 22 (.tmp 75) (.const (.int .i64 0)),none⟩,⟨some 77,.load 24 (.tmp 76),none⟩,⟨some 78,.call ⟨.value (.func 79),#[.tmp 77,.const (.int .i64 2)],#[24,3]⟩,none⟩,⟨some 79,.binOp .add 9 (.tmp 78) (.const (.string ⟨#[32,45,62,32]⟩)) 9,none⟩,⟨some 80,.fieldAddr 24 (.tmp 2) 2,none⟩,⟨some 81,.load 22 (.tmp 80),none⟩,⟨some 82,.indexAddr 22 (.tmp 81) (.const (.int .i64 1)),none⟩,⟨some 83,.load 24 (.tmp 82),none⟩,⟨some 84,.call ⟨.value (.func 79),#[.tmp 83,.const (.int .i64 1)],#[24,3]⟩,none⟩,⟨some 85,.binOp .add 9 (.tmp 79) (.tmp 84) 9,none⟩,⟨some 5,.assign (.tmp 85),none⟩]) .skip)))))))))))))))))))) (.seq (.seq (.reg [⟨some 86,.move (.tmp 6),none⟩,⟨some 87,.move (.tmp 1),none⟩,⟨some 88,.binOp .lss 3 (.tmp 86) (.tmp 87) 3,none⟩]) (.cond (.tmp 88) (.seq (.reg [⟨some 89,.move (.tmp 5),none⟩,⟨some 90,.binOp .add 9 (.const (.string ⟨#[40]⟩)) (.tmp 89) 9,none⟩,⟨some 91,.binOp .add 9 (.tmp 90) (.const (.string ⟨#[41]⟩)) 9,none⟩,⟨some 4,.assign (.tmp 91),none⟩]) .ret) .skip)) (.seq (.reg [⟨some 92,.move (.tmp 5),none⟩,⟨some 4,.assign (.tmp 92),none⟩]) .ret)))))
@[simp] theorem x79_s {C e s K} : type_of% (@X_at C e s K _ _ x79.eq_1) := X_at x79.eq_1
def an79 : Ann := ⟨[(17, .mix 11), (19, .mix 11), (21, .mix 11)], [], []⟩
@[simp] theorem an79_a : an79.clsOf 17 = .mix 11 ∧ an79.clsOf 19 = .mix 11 ∧ an79.clsOf 21 = .mix 11 ∧ an79.frzOf 17 = [] ∧ an79.frzOf 19 = [] ∧ an79.frzOf 21 = [] := ⟨rfl, rfl, rfl, rfl, rfl, rfl⟩
theorem fi79 : FI Try.prog 79 (cxA an79) x79 [.tmp 4] Try.f79 := fiA Try.func79 mixed
def levelN (k : Int) : Int := if k = 7 then 1 else if k = 6 then 2 else if k = 5 then 3 else 4
theorem level_formula (k : Int) : CallOK Try.prog 105 [.int .i64 k] [] (.int .i64 (levelN k)) [] := by
 refine fi105.op ?_
 ((refine Sg.h ?_); try repeat' ((first | (with_reducible first | refine brA ?_ | refine brE fun _ => ?_ | (refine spl ⟨?_, ?_⟩ <;> intro _))) <;> (try simp -implicitDefEqProofs (disch := first | assumption | (try simp only [lens]); omega -splitDisjunctions))))
 all_goals simp_all [levelN]
def paren (s : ByteArray) (k least : Int) : ByteArray := if levelN k < least then (⟨#[40]⟩ : ByteArray) ++ s ++ (⟨#[41]⟩ : ByteArray) else s
mutual
def said : Fm → Int → ByteArray
 | .mk k nm l => fun least =>
  let a := ((saids l)[0]?).getD fun _ => ⟨#[]⟩
  let b := ((saids l)[1]?).getD fun _ => ⟨#[]⟩
  paren (if k = 1 then nm else if k = 2 then ⟨#[49]⟩ else if k = 3 then ⟨#[48]⟩ else if k = 4 then (⟨#[126]⟩ : ByteArray) ++ a 4 else if k = 8 then (⟨#[91, 93]⟩ : ByteArray) ++ a 4 else if k = 9 then (⟨#[60, 62]⟩ : ByteArray) ++ a 4
   else if k = 5 then a 3 ++ (⟨#[32, 38, 32]⟩ : ByteArray) ++ b 4 else if k = 6 then a 2 ++ (⟨#[32, 124, 32]⟩ : ByteArray) ++ b 3 else if k = 7 then a 2 ++ (⟨#[32, 45, 62, 32]⟩ : ByteArray) ++ b 1 else ⟨#[]⟩) k least
def saids : List Fm → List (Int → ByteArray)
 | [] => []
 | f :: r => said f :: saids r
end
theorem paren_size (s : ByteArray) (k least : Int) : (paren s k least).size ≤ s.size + 2 := by
 unfold paren; split
 ·simp only [ByteArray.size_append]; show 1 + s.size + 1 ≤ _; omega
 ·omega
theorem pre_len0 (k : Int) (nm : ByteArray) : (pre (.mk k nm [])).length = 1 := by rw [pre_eq]; simp [pres_nil]
theorem pre_len1 (k : Int) (nm : ByteArray) (a : Fm) : (pre (.mk k nm [a])).length = 1 + (pre a).length := by rw [pre_eq]; simp [pres_nil, pres_cons]; omega
theorem pre_len2 (k : Int) (nm : ByteArray) (a b : Fm) : (pre (.mk k nm [a, b])).length = 1 + (pre a).length + (pre b).length := by rw [pre_eq]; simp [pres_nil, pres_cons]; omega
theorem said_size (f : Fm) (h : OkF (fun n => isNameB n = true) f) : ∀ least, (said f least).size ≤ 10 * (pre f).length := by
 induction f using Fm.ind with
 | h f ih =>
  intro least
  rcases h.nine with ⟨nm, hn, rfl⟩ | ⟨nm, rfl⟩ | ⟨nm, rfl⟩ | ⟨nm, a, ha, rfl⟩ | ⟨nm, a, b, ha, hb, rfl⟩ | ⟨nm, a, b, ha, hb, rfl⟩ | ⟨nm, a, b, ha, hb, rfl⟩ | ⟨nm, a, ha, rfl⟩ | ⟨nm, a, ha, rfl⟩
  all_goals refine Nat.le_trans (paren_size _ _ _) ?_
  ·have : nm.size ≤ 8 := by simp [isNameB] at hn; omega
   simp [pre_len0]; omega
  ·simp [pre_len0]
  ·simp [pre_len0]
  ·have := ih a (by simp) ha 4
   simp [saids, pre_len1]; omega
  ·have := ih a (by simp) ha 3
   have := ih b (by simp) hb 4
   simp [saids, pre_len2]; omega
  ·have := ih a (by simp) ha 2
   have := ih b (by simp) hb 3
   simp [saids, pre_len2]; omega
  ·have := ih a (by simp) ha 2
   have := ih b (by simp) hb 1
   simp [saids, pre_len2]; omega
  ·have := ih a (by simp) ha 4
   simp [saids, pre_len1]; omega
  ·have := ih a (by simp) ha 4
   simp [saids, pre_len1]; omega
theorem said_formula (f : Fm) (hf : OkF (fun n => isNameB n = true) f) : (pre f).length ≤ 1000 → ∀ least : Int, CallOK Try.prog 79 [.agg (frm f), .int .i64 least] [] (.str (said f least)) [] := by
 induction f using Fm.ind with
 | h f ih =>
  intro hl least
  refine fi79.op ?_
  rcases hf.nine with ⟨nm, hn, rfl⟩ | ⟨nm, rfl⟩ | ⟨nm, rfl⟩ | ⟨nm, a, ha, rfl⟩ | ⟨nm, a, b, ha, hb, rfl⟩ | ⟨nm, a, b, ha, hb, rfl⟩ | ⟨nm, a, b, ha, hb, rfl⟩ | ⟨nm, a, ha, rfl⟩ | ⟨nm, a, ha, rfl⟩
  ·have hs : nm.size ≤ 8 := by simp [isNameB] at hn; omega
   ((refine Sg.h ?_); try repeat' ((first | (with_reducible first | refine brA ?_ | refine brE fun _ => ?_ | (refine spl ⟨?_, ?_⟩ <;> intro _)) | refine clo (level_formula _) ?_) <;> (try simp -implicitDefEqProofs (disch := first | assumption | (try simp only [lens]); omega -splitDisjunctions))))
   all_goals simp_all [said, paren]
   omega
  ·((refine Sg.h ?_); try repeat' ((first | (with_reducible first | refine brA ?_ | refine brE fun _ => ?_ | (refine spl ⟨?_, ?_⟩ <;> intro _)) | refine clo (level_formula _) ?_) <;> (try simp -implicitDefEqProofs (disch := first | assumption | (try simp only [lens]); omega -splitDisjunctions))))
   all_goals simp_all [said, paren]
   all_goals (intros; omega)
  ·((refine Sg.h ?_); try repeat' ((first | (with_reducible first | refine brA ?_ | refine brE fun _ => ?_ | (refine spl ⟨?_, ?_⟩ <;> intro _)) | refine clo (level_formula _) ?_) <;> (try simp -implicitDefEqProofs (disch := first | assumption | (try simp only [lens]); omega -splitDisjunctions))))
   all_goals simp_all [said, paren]
   all_goals (intros; omega)
  ·rw [pre_len1] at hl
   have s1 := said_size a ha 4
   ((refine Sg.h ?_); try repeat' ((first | (with_reducible first | refine brA ?_ | refine brE fun _ => ?_ | (refine spl ⟨?_, ?_⟩ <;> intro _)) | refine clo (level_formula _) ?_ | refine clo (ih a (by simp) ha (by omega) _) ?_) <;> (try simp -implicitDefEqProofs (disch := first | assumption | (try simp only [lens]); omega -splitDisjunctions))))
   all_goals simp_all [said, saids, paren]
   all_goals (intros; omega)
  ·rw [pre_len2] at hl
   have s1 := said_size a ha 3
   have s2 := said_size b hb 4
   ((refine Sg.h ?_); try repeat' ((first | (with_reducible first | refine brA ?_ | refine brE fun _ => ?_ | (refine spl ⟨?_, ?_⟩ <;> intro _)) | refine clo (level_formula _) ?_ | refine clo (ih a (by simp) ha (by omega) _) ?_ | refine clo (ih b (by simp) hb (by omega) _) ?_) <;> (try simp -implicitDefEqProofs (disch := first | assumption | (try simp only [lens]); omega -splitDisjunctions))))
   all_goals simp_all [said, saids, paren]
   all_goals (intros; omega)
  ·rw [pre_len2] at hl
   have s1 := said_size a ha 2
   have s2 := said_size b hb 3
   ((refine Sg.h ?_); try repeat' ((first | (with_reducible first | refine brA ?_ | refine brE fun _ => ?_ | (refine spl ⟨?_, ?_⟩ <;> intro _)) | refine clo (level_formula _) ?_ | refine clo (ih a (by simp) ha (by omega) _) ?_ | refine clo (ih b (by simp) hb (by omega) _) ?_) <;> (try simp -implicitDefEqProofs (disch := first | assumption | (try simp only [lens]); omega -splitDisjunctions))))
   all_goals simp_all [said, saids, paren]
   all_goals (intros; omega)
  ·rw [pre_len2] at hl
   have s1 := said_size a ha 2
   have s2 := said_size b hb 1
   ((refine Sg.h ?_); try repeat' ((first | (with_reducible first | refine brA ?_ | refine brE fun _ => ?_ | (refine spl ⟨?_, ?_⟩ <;> intro _)) | refine clo (level_formula _) ?_ | refine clo (ih a (by simp) ha (by omega) _) ?_ | refine clo (ih b (by simp) hb (by omega) _) ?_) <;> (try simp -implicitDefEqProofs (disch := first | assumption | (try simp only [lens]); omega -splitDisjunctions))))
   all_goals simp_all [said, saids, paren]
   all_goals (intros; omega)
  ·rw [pre_len1] at hl
   have s1 := said_size a ha 4
   ((refine Sg.h ?_); try repeat' ((first | (with_reducible first | refine brA ?_ | refine brE fun _ => ?_ | (refine spl ⟨?_, ?_⟩ <;> intro _)) | refine clo (level_formula _) ?_ | refine clo (ih a (by simp) ha (by omega) _) ?_) <;> (try simp -implicitDefEqProofs (disch := first | assumption | (try simp only [lens]); omega -splitDisjunctions))))
   all_goals simp_all [said, saids, paren]
   all_goals (intros; omega)
  ·rw [pre_len1] at hl
   have s1 := said_size a ha 4
   ((refine Sg.h ?_); try repeat' ((first | (with_reducible first | refine brA ?_ | refine brE fun _ => ?_ | (refine spl ⟨?_, ?_⟩ <;> intro _)) | refine clo (level_formula _) ?_ | refine clo (ih a (by simp) ha (by omega) _) ?_) <;> (try simp -implicitDefEqProofs (disch := first | assumption | (try simp only [lens]); omega -splitDisjunctions))))
   all_goals simp_all [said, saids, paren]
   all_goals (intros; omega)
def x52 : XC := .seq (.reg [⟨some 1,.box 24 (.tmp 0),none⟩,⟨some 2,.assign (.const (.string ⟨#[]⟩)),none⟩]) (.seq (.reg [⟨some 3,.load 24 (.tmp 1),none⟩,⟨some 4,.call ⟨.value (.func 79),#[.tmp 3,.const (.int .i64 1)],#[24,3]⟩,none⟩,⟨some 2,.assign (.tmp 4),none⟩]) .ret)
@[simp] theorem x52_s {C e s K} : type_of% (@X_at C e s K _ _ x52.eq_1) := X_at x52.eq_1
def an52 : Ann := ⟨[], [], []⟩
theorem fi52 : FI Try.prog 52 (cxA an52) x52 [.tmp 2] Try.f52 := fiA Try.func52 mixed
theorem Said_formula (f : Fm) (hf : OkF (fun n => isNameB n = true) f) (hl : (pre f).length ≤ 1000) : CallOK Try.prog 52 [.agg (frm f)] [] (.str (said f 1)) [] := by
 refine fi52.op ?_
 ((refine Sg.h ?_); try repeat' ((first | (with_reducible first | refine brA ?_ | refine brE fun _ => ?_ | (refine spl ⟨?_, ?_⟩ <;> intro _)) | refine clo (said_formula f hf hl _) ?_) <;> (try simp -implicitDefEqProofs (disch := first | assumption | (try simp only [lens]); omega -splitDisjunctions))))
end Go.Proofs.Ytcllmionhlmjfaa
