/-
  Plain laws on formulas: what is fine, what is alike, where formulas are true, what is put for a name.
-/
import Derived.Test.YtnoklmapofogeaaVQFm
import Derived.Test.YtnoklmapofogeaaVPvQt
namespace Go.Proofs.Ytnoklmapofogeaa
open Go Go.Pv
set_option linter.unusedVariables false
set_option linter.unusedSimpArgs false
set_option linter.unusedSectionVars false
set_option maxRecDepth 100000

theorem OkF.nine {N : ByteArray → Prop} {f : Fm} (h : OkF N f) : (∃ nm, N nm ∧ f = .mk 1 nm []) ∨ (∃ nm, f = .mk 2 nm []) ∨ (∃ nm, f = .mk 3 nm []) ∨ (∃ nm a, OkF N a ∧ f = .mk 4 nm [a]) ∨ (∃ nm a b, OkF N a ∧ OkF N b ∧ f = .mk 5 nm [a, b]) ∨
    (∃ nm a b, OkF N a ∧ OkF N b ∧ f = .mk 6 nm [a, b]) ∨ (∃ nm a b, OkF N a ∧ OkF N b ∧ f = .mk 7 nm [a, b]) ∨ (∃ nm a, OkF N a ∧ f = .mk 8 nm [a]) ∨ (∃ nm a, OkF N a ∧ f = .mk 9 nm [a]) := by
  cases h with
  | mk h hN g =>
    rename_i k nm l
    unfold kidsN at h
    have hk : k = 1 ∨ k = 2 ∨ k = 3 ∨ k = 4 ∨ k = 5 ∨ k = 6 ∨ k = 7 ∨ k = 8 ∨ k = 9 := by
      (repeat' split at h) <;> omega
    rcases hk with rfl | rfl | rfl | rfl | rfl | rfl | rfl | rfl | rfl <;> simp at h
    · subst h; exact .inl ⟨nm, hN rfl, rfl⟩
    · subst h; exact .inr (.inl ⟨nm, rfl⟩)
    · subst h; exact .inr (.inr (.inl ⟨nm, rfl⟩))
    · match l, h with | [a], _ => exact .inr (.inr (.inr (.inl ⟨nm, a, g a (by simp), rfl⟩)))
    · match l, h with | [a, b], _ => exact .inr (.inr (.inr (.inr (.inl ⟨nm, a, b, g a (by simp), g b (by simp), rfl⟩))))
    · match l, h with | [a, b], _ => exact .inr (.inr (.inr (.inr (.inr (.inl ⟨nm, a, b, g a (by simp), g b (by simp), rfl⟩)))))
    · match l, h with | [a, b], _ => exact .inr (.inr (.inr (.inr (.inr (.inr (.inl ⟨nm, a, b, g a (by simp), g b (by simp), rfl⟩))))))
    · match l, h with | [a], _ => exact .inr (.inr (.inr (.inr (.inr (.inr (.inr (.inl ⟨nm, a, g a (by simp), rfl⟩)))))))
    · match l, h with | [a], _ => exact .inr (.inr (.inr (.inr (.inr (.inr (.inr (.inr ⟨nm, a, g a (by simp), rfl⟩)))))))

theorem take_snoc {α : Type} {l : List α} {i : Nat} (h : i < l.length) : l.take (i + 1) = l.take i ++ [l[i]] := by
  rw [List.take_add_one, List.getElem?_eq_getElem h]; rfl
theorem OkF.kid {N : ByteArray → Prop} {f g : Fm} (h : OkF N f) (hg : g ∈ f.kids) : OkF N g := by
  cases h with | mk a b c => exact c g hg
/-- two lists of formulas, place by place -/
def eqL (r : Fm → Fm → Bool) : List Fm → List Fm → Bool
  | [], [] => true
  | a :: xs, b :: bs => r a b && eqL r xs bs
  | _, _ => false
theorem eqL_len {r : Fm → Fm → Bool} : ∀ {xs bs : List Fm}, xs.length ≠ bs.length → eqL r xs bs = false
  | [], [], h => absurd rfl h
  | [], _ :: _, _ => rfl
  | _ :: _, [], _ => rfl
  | a :: xs, b :: bs, h => by rw [eqL, eqL_len (xs := xs) (bs := bs) (by simpa using h), Bool.and_false]
theorem eqL_drop {r : Fm → Fm → Bool} {xs bs : List Fm} {i : Nat} (h : i < xs.length) (h' : i < bs.length) : eqL r (xs.drop i) (bs.drop i) = (r xs[i] bs[i] && eqL r (xs.drop (i + 1)) (bs.drop (i + 1))) := by
  rw [List.drop_eq_getElem_cons h, List.drop_eq_getElem_cons h', eqL]
noncomputable def sameB (f g : Fm) : Bool := @decide (f = g) (Classical.propDecidable _)
theorem sameB_iff {f g : Fm} : sameB f g = true ↔ f = g := by simp [sameB]
theorem eqL_same : ∀ xs bs : List Fm, eqL sameB xs bs = true ↔ xs = bs
  | [], [] => by simp [eqL]
  | [], _ :: _ => by simp [eqL]
  | _ :: _, [] => by simp [eqL]
  | a :: xs, b :: bs => by simp [eqL, sameB_iff, eqL_same xs bs]
theorem sameB_eq (f g : Fm) : sameB f g = (decide (f.kind = g.kind) && decide (f.name = g.name) && eqL sameB f.kids g.kids) := by
  rw [Bool.eq_iff_iff, sameB_iff, Bool.and_eq_true, Bool.and_eq_true, decide_eq_true_iff, decide_eq_true_iff, eqL_same]
  cases f; cases g
  simp [and_assoc]
theorem pres_mem {x g : Fm} (hx : x ∈ pre g) : ∀ l : List Fm, g ∈ l → x ∈ pres l
  | a :: r, h => by
    rw [pres_cons, List.mem_append]
    cases h with
    | head => exact .inl hx
    | tail _ h => exact .inr (pres_mem hx r h)
theorem mem_pres {x : Fm} : ∀ l : List Fm, x ∈ pres l → ∃ g ∈ l, x ∈ pre g
  | [], h => by rw [pres_nil] at h; cases h
  | a :: r, h => by
    rw [pres_cons, List.mem_append] at h
    rcases h with h | h
    · exact ⟨a, by simp, h⟩
    · obtain ⟨g, h1, h2⟩ := mem_pres r h; exact ⟨g, by simp [h1], h2⟩
theorem pres_len {g : Fm} : ∀ l : List Fm, g ∈ l → (pre g).length ≤ (pres l).length
  | a :: r, h => by
    rw [pres_cons, List.length_append]
    cases h with
    | head => omega
    | tail _ h => have := pres_len r h; omega
theorem pre_sub {N : ByteArray → Prop} (f : Fm) (hf : OkF N f) : ∀ x ∈ pre f, OkF N x ∧ (pre x).length ≤ (pre f).length ∧ ∀ y ∈ pre x, y ∈ pre f := by
  induction f using Fm.ind with
  | h f ih =>
    intro x hx
    rw [pre_eq] at hx
    cases hx with
    | head => exact ⟨hf, Nat.le_refl _, fun y h => h⟩
    | tail _ hx =>
      obtain ⟨g, h1, h2⟩ := mem_pres _ hx
      obtain ⟨h3, h4, h5⟩ := ih g h1 (hf.kid h1) x h2
      refine ⟨h3, ?_, fun y hy => ?_⟩
      · have := pres_len _ h1
        rw [pre_eq f]; simp; omega
      · rw [pre_eq f]; exact List.mem_cons_of_mem _ (pres_mem (h5 y hy) _ h1)

def Td (f : Fm) : Prop := ∀ x ∈ pre f, okN x
theorem Td.kid {f g : Fm} (h : Td f) (hg : g ∈ f.kids) : Td g := fun x hx => h x (by rw [pre_eq]; exact List.mem_cons_of_mem _ (pres_mem hx _ hg))
theorem Td.ok {f : Fm} (h : Td f) : OkF (fun n => isNameB n = true) f := okF_of_pre f h
theorem Td.nine {f : Fm} (h : Td f) : (∃ nm, isNameB nm = true ∧ f = .mk 1 nm []) ∨ (f = .mk 2 ⟨#[]⟩ []) ∨ (f = .mk 3 ⟨#[]⟩ []) ∨ (∃ a, Td a ∧ f = .mk 4 ⟨#[]⟩ [a]) ∨ (∃ a b, Td a ∧ Td b ∧ f = .mk 5 ⟨#[]⟩ [a, b]) ∨
    (∃ a b, Td a ∧ Td b ∧ f = .mk 6 ⟨#[]⟩ [a, b]) ∨ (∃ a b, Td a ∧ Td b ∧ f = .mk 7 ⟨#[]⟩ [a, b]) ∨ (∃ a, Td a ∧ f = .mk 8 ⟨#[]⟩ [a]) ∨ (∃ a, Td a ∧ f = .mk 9 ⟨#[]⟩ [a]) := by
  have hn := (h f (by rw [pre_eq]; exact List.mem_cons_self)).2.2
  rcases h.ok.nine with ⟨nm, hN, rfl⟩ | ⟨nm, rfl⟩ | ⟨nm, rfl⟩ | ⟨nm, a, ha, rfl⟩ | ⟨nm, a, b, ha, hb, rfl⟩ | ⟨nm, a, b, ha, hb, rfl⟩ | ⟨nm, a, b, ha, hb, rfl⟩ | ⟨nm, a, ha, rfl⟩ | ⟨nm, a, ha, rfl⟩
  all_goals simp only [Fm.kind, Fm.name] at hn
  · exact .inl ⟨nm, hN, rfl⟩
  all_goals obtain rfl : nm = ⟨#[]⟩ := by (refine Classical.byContradiction fun g => hn (.inr ⟨by decide, g⟩))
  · exact .inr (.inl rfl)
  · exact .inr (.inr (.inl rfl))
  · exact .inr (.inr (.inr (.inl ⟨a, h.kid (by simp [Fm.kids]), rfl⟩)))
  · exact .inr (.inr (.inr (.inr (.inl ⟨a, b, h.kid (by simp [Fm.kids]), h.kid (by simp [Fm.kids]), rfl⟩))))
  · exact .inr (.inr (.inr (.inr (.inr (.inl ⟨a, b, h.kid (by simp [Fm.kids]), h.kid (by simp [Fm.kids]), rfl⟩)))))
  · exact .inr (.inr (.inr (.inr (.inr (.inr (.inl ⟨a, b, h.kid (by simp [Fm.kids]), h.kid (by simp [Fm.kids]), rfl⟩))))))
  · exact .inr (.inr (.inr (.inr (.inr (.inr (.inr (.inl ⟨a, h.kid (by simp [Fm.kids]), rfl⟩)))))))
  · exact .inr (.inr (.inr (.inr (.inr (.inr (.inr (.inr ⟨a, h.kid (by simp [Fm.kids]), rfl⟩)))))))

theorem Td.pre {f x : Fm} (h : Td f) (hx : x ∈ pre f) : Td x := fun y hy => h y ((pre_sub f h.ok x hx).2.2 y hy)
section
variable {n : Nat} {t : Nat → Nat → Bool} {hold : Nat → ByteArray → Bool} {w : Nat} {nm : ByteArray} {l : List Fm} {a b : Fm}
end
/-- the document's check -/
def refFault (f : Fm) : Int × Int := (checkNodes (walkL f 201) 0).getD (0, 0)
theorem walkK_take (l : List Fm) (ih : ∀ f ∈ l, ∀ m : Nat, walkL f (m : Int) = (pre f).take (m + 1)) : ∀ (out : List Fm) (m : Nat), out.length ≤ m + 1 → walkK l out (m : Int) = (out ++ pres l).take (m + 1) := by
  induction l with
  | nil => intro out m h; rw [walkK, pres_nil, List.append_nil, List.take_of_length_le h]
  | cons f r ih2 =>
    intro out m h
    rw [walkK]
    split
    · rename_i h1
      have hm : (m : Int) - out.length = ((m - out.length : Nat) : Int) := by omega
      rw [hm, ih f (by simp), ih2 (fun g hg => ih g (by simp [hg])) _ _ (by simp; omega), pres_cons]
      rw [List.append_assoc, List.take_append, List.take_append, List.take_append, List.take_append, List.take_take, List.length_take]
      have e1 : min (m + 1 - out.length) (m - out.length + 1) = m + 1 - out.length := by omega
      have e2 : m + 1 - out.length - min (m - out.length + 1) (pre f).length = m + 1 - out.length - (pre f).length := by omega
      rw [e1, e2]
    · rw [List.take_append, List.take_of_length_le h, show m + 1 - out.length = 0 by omega, List.take_zero, List.append_nil]
theorem walk_take (f : Fm) : ∀ m : Nat, walkL f (m : Int) = (pre f).take (m + 1) := by
  induction f using Fm.ind with
  | h f ih => intro m; rw [walkL_eq, walkK_take _ ih [f] m (by simp), pre_eq]; rfl
theorem pres_ge : ∀ l : List Fm, l.length ≤ (pres l).length
  | [] => by simp
  | f :: r => by rw [pres_cons, pre_eq]; have := pres_ge r; simp; omega
theorem nodesGo_take (M : Nat) : ∀ (n : Nat) (st : List Fm), n ≤ M + 1 → nodesGo M n st = (pres st).take n := by
  intro n
  induction n with
  | zero => intro st h; rw [List.take_zero]; cases st <;> rfl
  | succ n ih =>
    intro st h
    cases st with
    | nil => rw [nodesGo_nil, pres_nil]; rfl
    | cons x r =>
      rw [nodesGo_succ, ih _ (by omega), pres_head, List.take_succ_cons]
      congr 1
      by_cases hx : x.kids.length ≤ M
      · rw [List.take_of_length_le hx]
      · have e : pres (x.kids ++ r) = pres (x.kids.take M) ++ (pres (x.kids.drop M) ++ pres r) := by
          rw [← List.append_assoc, ← pres_append, List.take_append_drop, pres_append]
        have hl : n ≤ (pres (x.kids.take M)).length := by
          have := pres_ge (x.kids.take M); rw [List.length_take] at this; omega
        rw [e, pres_append, List.take_append_of_le_length hl, List.take_append_of_le_length hl]
theorem checkNodes_take : ∀ (l : List Fm) (n i : Nat), 201 ≤ i + n → i ≤ 200 → checkNodes (l.take n) (i : Int) = checkNodes l i := by
  intro l
  induction l with
  | nil => intro n i h1 h2; rw [List.take_nil]
  | cons x r ih =>
    intro n i h1 h2
    obtain ⟨n, rfl⟩ : ∃ k, n = k + 1 := ⟨n - 1, by omega⟩
    rw [List.take_succ_cons, checkNodes, checkNodes]
    by_cases h3 : (i : Int) = 200
    · rw [if_pos h3, if_pos h3]
    · have := ih n (i + 1) (by omega) (by omega)
      rw [if_neg h3, if_neg h3, show ((i : Int) + 1) = ((i + 1 : Nat) : Int) by omega, this]
theorem refFault_eq (f : Fm) : refFault f = formulaCheck f := by
  unfold refFault formulaCheck
  rw [show (201 : Int) = ((201 : Nat) : Int) from rfl, walk_take, nodesGo_take _ _ _ (by omega), pres_cons, pres_nil, List.append_nil]
  rw [show (0 : Int) = ((0 : Nat) : Int) from rfl, checkNodes_take _ _ _ (by omega) (by omega), checkNodes_take _ _ _ (by omega) (by omega)]
end Go.Proofs.Ytnoklmapofogeaa
