import Derived.Test.YtcllmionhlmjfaaAFormA
import Derived.Test.YtcllmionhlmjfaaAFormB
import Derived.Test.YtcllmionhlmjfaaAPvQt
import Derived.Test.YtcllmionhlmjfaaANmP
set_option linter.unusedVariables false
set_option linter.unusedSimpArgs false
set_option maxRecDepth 100000
set_option maxHeartbeats 4000000
set_option linter.unusedSectionVars false
namespace Go.Proofs.Ytcllmionhlmjfaa
open Go Go.Pv
theorem Fm.ind {p : Fm → Prop} (h : ∀ f : Fm, (∀ g ∈ f.kids, p g) → p f) : ∀ f, p f
 | .mk k nm kids => h _ fun g hg => Fm.ind h g
termination_by f => SizeOf.sizeOf f
decreasing_by
 have := List.sizeOf_lt_of_mem hg
 simp only [Fm.kids, Fm.mk.sizeOf_spec] at *
 omega
mutual
def vastB : Fm → Int → Bool
 | .mk _ _ kids, d => decide (25000 < d) || (decide (25000 < (kids.length : Int)) || vastsB kids (d + 1))
def vastsB : List Fm → Int → Bool
 | [], _ => false
 | f :: r, d => vastB f d || vastsB r d
end
theorem vastB_eq (f : Fm) (d : Int) : vastB f d = (decide (25000 < d) || (decide (25000 < (f.kids.length : Int)) || vastsB f.kids (d + 1))) := by
 cases f with | mk k nm l => rw [vastB]; rfl
theorem vastsB_drop (l : List Fm) (i : Nat) (h : i < l.length) (d : Int) : vastsB (l.drop i) d = (vastB l[i] d || vastsB (l.drop (i + 1)) d) := by
 rw [List.drop_eq_getElem_cons h, vastsB]
theorem vast_ref (f : Fm) : ∀ (d : Int), 0 ≤ d → d ≤ 25001 → ∀ s : Store, CallOK Try.prog 12 [.agg (frm f), .int .i64 d] s (.bool (vastB f d)) s := by
 induction f using Fm.ind with
 | h f ih =>
 intro d hd0 hd1 s
 refine CallOK.frame ?_ ?_
 ·refine callOK_of Try.func12 rfl rfl Try.ntmps12 (by simp) ?_
  rw [Try.results12]
  dsimp only [light, regL, dsts, lopsL, lop, nth]
  have hmax : maxLen = 9223372036854775807 := rfl
  have hv := vastB_eq f d
  (have F_ := And.intro @frm_length (And.intro @frm_take (And.intro @frm_drop3 (And.intro @frm_drop2 (And.intro @frm_get0 (And.intro @frm_get1 (@frm_get2))))))); repeat' (first | (with_reducible refine stp ?_) | (with_reducible refine hq _ _ ?_; clear hq q) | (with_reducible refine hk _ _ ?_; clear hk k) | (with_reducible refine EvL.regA (fun k hk => ?_)) | ((with_reducible apply WOps.call); (· exact dOK); (· exact vOK); (· first | assumption | exact EnT.h); (· exact argsOK (x := by first | fail))) | (with_reducible refine WOps.auto F_ (fun q hq => ?_)) | ((with_reducible refine EvL.condA ?_ ?_); all_goals (intro h <;> (try simp only [hna, hnb, hnc, ne_eq, reduceCtorEq, Int.reduceEq, gt_iff_lt, ge_iff_le] at h) <;> (try (exfalso; omega; done)))) | (with_reducible refine EvL.drawnA (fun k hk => ?_)) | (with_reducible refine EvL.mixA (fun k hk => ?_)) | (with_reducible refine EvL.mix2A (fun k hk => ?_)) | (with_reducible refine WMix.bothA F_ ?_ ?_) | (with_reducible refine WOps.takeA ?_) | (with_reducible refine WOps.passA ?_) | ((with_reducible refine WOps.splitA ?_ ?_); all_goals (intro h <;> simp only [h] <;> (try simp only [hna, hnb, hnc, ne_eq, reduceCtorEq, Int.reduceEq, gt_iff_lt, ge_iff_le] at h) <;> (try (exfalso; omega; done)))) | (with_reducible refine WMix.takeA ?_) | (with_reducible refine WMix.passA ?_) | ((with_reducible apply WMix.cons); (· exact dOK); (· decide); (· intro t; (with_reducible apply WG.call); (· exact vOK); (· first | assumption | exact EnT.h); (· exact argsOK (x := by first | fail)))) | (with_reducible refine WMix.consA F_ ?_) | (with_reducible refine WMix.makeA F_ ?_) | ((with_reducible refine And.intro ?_ ?_); (· omega)) | ((with_reducible refine And.intro (fun h => ?_) (fun h => ?_)) <;> (try simp only [Decidable.not_not] at h) <;> (try simp only [h])) | (with_reducible intro hl))
  ·(refine finA ?_; try exact trivial)
   rw [hv, decide_eq_true ‹25000 < d›]; rfl
  ·(refine finA ?_; try exact trivial)
   rw [hv, decide_eq_true h]; simp
  ·rename_i hl
   have hd2 : d + 1 ≤ 25001 := by omega
   have hwd : IntKind.i64.wrap (d + 1) = d + 1 := wrapi (by omega) (by omega)
   refine EvL.loop (X := Nat) (fun i => [(1, .int .i64 d), (2, .ptr 0 0 0), (5, .int .i64 (i : Int))])
    (fun i => [.rows 3 [frm f]]) (fun i => i ≤ f.kids.length ∧ vastB f d = vastsB (f.kids.drop i) (d + 1)) (fun i => f.kids.length - i) 0 ⟨by omega, by rw [hv, decide_eq_false (by omega), decide_eq_false (by omega)]; rfl⟩
    (View.of [0] _ (by simp) (by decide) (by (refine vw ?_; try exact trivial); exact frm_ren _ _) (by (refine vw ?_; try exact trivial))) (fun i hi => ?_)
   by_cases hlt : i < f.kids.length
   ·have hrow : (f.kids.map frm)[i]? = some (frm f.kids[i]) := map_get _ _ _ _ (List.getElem?_eq_getElem hlt)
    have hw := wrap_up i (by omega)
    have hd := vastsB_drop f.kids i hlt (d + 1)
    (have F_ := And.intro @hrow (And.intro @hw (And.intro @hwd (And.intro @frm_length (And.intro @frm_cell (And.intro @frm_take (And.intro @frm_drop3 (And.intro @frm_drop2 (And.intro @frm_get0 (And.intro @frm_get1 (@frm_get2))))))))))); repeat' (first | (with_reducible refine stp ?_) | (with_reducible refine hq _ _ ?_; clear hq q) | (with_reducible refine hk _ _ ?_; clear hk k) | (with_reducible refine EvL.regA (fun k hk => ?_)) | ((with_reducible apply WOps.call); (· exact dOK); (· exact vOK); (· first | assumption | exact EnT.h); (· exact argsOK (x := by first | exact ih _ (List.getElem_mem hlt) _ (by omega) hd2 _))) | (with_reducible refine WOps.auto F_ (fun q hq => ?_)) | ((with_reducible refine EvL.condA ?_ ?_); all_goals (intro h <;> (try simp only [hna, hnb, hnc, ne_eq, reduceCtorEq, Int.reduceEq, gt_iff_lt, ge_iff_le] at h) <;> (try (exfalso; omega; done)))) | (with_reducible refine EvL.drawnA (fun k hk => ?_)) | (with_reducible refine EvL.mixA (fun k hk => ?_)) | (with_reducible refine EvL.mix2A (fun k hk => ?_)) | (with_reducible refine WMix.bothA F_ ?_ ?_) | (with_reducible refine WOps.takeA ?_) | (with_reducible refine WOps.passA ?_) | ((with_reducible refine WOps.splitA ?_ ?_); all_goals (intro h <;> simp only [h] <;> (try simp only [hna, hnb, hnc, ne_eq, reduceCtorEq, Int.reduceEq, gt_iff_lt, ge_iff_le] at h) <;> (try (exfalso; omega; done)))) | (with_reducible refine WMix.takeA ?_) | (with_reducible refine WMix.passA ?_) | ((with_reducible apply WMix.cons); (· exact dOK); (· decide); (· intro t; (with_reducible apply WG.call); (· exact vOK); (· first | assumption | exact EnT.h); (· exact argsOK (x := by first | exact ih _ (List.getElem_mem hlt) _ (by omega) hd2 _)))) | (with_reducible refine WMix.consA F_ ?_) | (with_reducible refine WMix.makeA F_ ?_) | ((with_reducible refine And.intro ?_ ?_); (· omega)) | ((with_reducible refine And.intro (fun h => ?_) (fun h => ?_)) <;> (try simp only [Decidable.not_not] at h) <;> (try simp only [h])) | (with_reducible intro hl))
    ·(refine finA ?_; try exact trivial)
     rw [hi.2, hd, h]; rfl
    ·refine ⟨i + 1, ⟨by omega, ?_⟩, by omega, View.of [0] _ (by simp) (by decide) (by (refine vw ?_; try exact trivial); exact frm_ren _ _) (by (refine vw ?_; try exact trivial))⟩
     rw [hi.2, hd, h]; rfl
   ·(have F_ := And.intro @frm_length (And.intro @frm_take (And.intro @frm_drop3 (And.intro @frm_drop2 (And.intro @frm_get0 (And.intro @frm_get1 (@frm_get2))))))); repeat' (first | (with_reducible refine stp ?_) | (with_reducible refine hq _ _ ?_; clear hq q) | (with_reducible refine hk _ _ ?_; clear hk k) | (with_reducible refine EvL.regA (fun k hk => ?_)) | ((with_reducible apply WOps.call); (· exact dOK); (· exact vOK); (· first | assumption | exact EnT.h); (· exact argsOK (x := by first | fail))) | (with_reducible refine WOps.auto F_ (fun q hq => ?_)) | ((with_reducible refine EvL.condA ?_ ?_); all_goals (intro h <;> (try simp only [hna, hnb, hnc, ne_eq, reduceCtorEq, Int.reduceEq, gt_iff_lt, ge_iff_le] at h) <;> (try (exfalso; omega; done)))) | (with_reducible refine EvL.drawnA (fun k hk => ?_)) | (with_reducible refine EvL.mixA (fun k hk => ?_)) | (with_reducible refine EvL.mix2A (fun k hk => ?_)) | (with_reducible refine WMix.bothA F_ ?_ ?_) | (with_reducible refine WOps.takeA ?_) | (with_reducible refine WOps.passA ?_) | ((with_reducible refine WOps.splitA ?_ ?_); all_goals (intro h <;> simp only [h] <;> (try simp only [hna, hnb, hnc, ne_eq, reduceCtorEq, Int.reduceEq, gt_iff_lt, ge_iff_le] at h) <;> (try (exfalso; omega; done)))) | (with_reducible refine WMix.takeA ?_) | (with_reducible refine WMix.passA ?_) | ((with_reducible apply WMix.cons); (· exact dOK); (· decide); (· intro t; (with_reducible apply WG.call); (· exact vOK); (· first | assumption | exact EnT.h); (· exact argsOK (x := by first | fail)))) | (with_reducible refine WMix.consA F_ ?_) | (with_reducible refine WMix.makeA F_ ?_) | ((with_reducible refine And.intro ?_ ?_); (· omega)) | ((with_reducible refine And.intro (fun h => ?_) (fun h => ?_)) <;> (try simp only [Decidable.not_not] at h) <;> (try simp only [h])) | (with_reducible intro hl))
    (refine finA ?_; try exact trivial)
    rw [hi.2, List.drop_eq_nil_of_le (by omega)]; rfl
 ·intro a ha; simp only [List.mem_cons, List.not_mem_nil, or_false] at ha
  rcases ha with rfl | rfl
  ·exact closed_frm f
  ·exact (flat_int _ _).closed
end Go.Proofs.Ytcllmionhlmjfaa
namespace Go.Proofs.Ytcllmionhlmjfaa
open Go Go.Pv
inductive OkF (N : ByteArray → Prop) : Fm → Prop where
 | mk {k : Int} {nm : ByteArray} {kids : List Fm} (h : (kids.length : Int) = kidsN k) (hN : k = 1 → N nm) (g : ∀ f ∈ kids, OkF N f) : OkF N (.mk k nm kids)
mutual
def pre : Fm → List Fm
 | .mk k nm l => .mk k nm l :: pres l
def pres : List Fm → List Fm
 | [] => []
 | f :: r => pre f ++ pres r
end
theorem pre_eq (f : Fm) : pre f = f :: pres f.kids := by cases f with | mk k nm l => rw [pre]; rfl
theorem pres_nil : pres [] = [] := by rw [pres]
theorem pres_cons (f : Fm) (r : List Fm) : pres (f :: r) = pre f ++ pres r := by rw [pres]
theorem pres_append (a b : List Fm) : pres (a ++ b) = pres a ++ pres b := by
 induction a with
 | nil => simp [pres_nil]
 | cons f r ih => simp [pres_cons, ih]
theorem pres_head (x : Fm) (r : List Fm) : pres (x :: r) = x :: pres (x.kids ++ r) := by rw [pres_cons, pre_eq, pres_append]; rfl
theorem nodesGo_succ (M n : Nat) (x : Fm) (r : List Fm) : nodesGo M (n + 1) (x :: r) = x :: nodesGo M n (x.kids.take M ++ r) := rfl
theorem nodesGo_nil (M n : Nat) : nodesGo M n [] = [] := by cases n <;> rfl
theorem nodesGo_short (M : Nat) : ∀ (n : Nat) (st : List Fm), (nodesGo M n st).length < n → (∀ x ∈ nodesGo M n st, x.kids.length ≤ M) → nodesGo M n st = pres st := by
 intro n
 induction n with
 | zero => intro st h; omega
 | succ n ih =>
  intro st h g
  cases st with
  | nil => rw [nodesGo_nil, pres_nil]
  | cons x r =>
   rw [nodesGo_succ] at h g ⊢
   have hx := g x (by simp)
   rw [List.take_of_length_le hx] at h g ⊢
   rw [pres_head, ih _ (by simpa using h) fun y hy => g y (by simp [hy])]
theorem nodesGo_long (M : Nat) : ∀ (n : Nat) (st : List Fm), (pres st).length ≤ n → (∀ x ∈ pres st, x.kids.length ≤ M) → nodesGo M n st = pres st := by
 intro n
 induction n with
 | zero =>
  intro st h g
  cases st with
  | nil => rw [nodesGo_nil, pres_nil]
  | cons x r => rw [pres_head] at h; simp at h
 | succ n ih =>
  intro st h g
  cases st with
  | nil => rw [nodesGo_nil, pres_nil]
  | cons x r =>
   rw [pres_head] at h g ⊢
   have hx := g x (by simp)
   rw [nodesGo_succ, List.take_of_length_le hx, ih _ (by simpa using h) fun y hy => g y (by simp [hy])]
def okN (x : Fm) : Prop := 0 ≤ kidsN x.kind ∧ (x.kids.length : Int) = kidsN x.kind ∧ ¬ ((x.kind = 1 ∧ isNameB x.name = false) ∨ (x.kind ≠ 1 ∧ x.name ≠ ⟨#[]⟩))
theorem okN_kids {x : Fm} (h : okN x) : x.kids.length ≤ 201 := by
 have := h.2.1
 unfold kidsN at this
 (repeat' split at this) <;> omega
theorem checkNodes_some : ∀ (l : List Fm) (i : Int) (x : Int × Int), checkNodes l i = some x → x.1 ≠ 0 := by
 intro l
 induction l with
 | nil => intro i x h; simp [checkNodes] at h
 | cons p r ih =>
  intro i x h
  rw [checkNodes] at h
  (repeat' split at h) <;> first | (cases h; simp; done) | exact ih _ _ h
theorem checkNodes_iff : ∀ (l : List Fm) (i : Int), i ≤ 200 → (checkNodes l i = none ↔ (∀ x ∈ l, okN x) ∧ i + l.length ≤ 200) := by
 intro l
 induction l with
 | nil => intro i hi; simp [checkNodes]; exact hi
 | cons x r ih =>
  intro i hi
  rw [checkNodes]
  by_cases h1 : i = 200
  ·rw [if_pos h1]; simp; omega
  ·rw [if_neg h1]
   by_cases h2 : kidsN x.kind < 0
   ·rw [if_pos h2]; simp only [reduceCtorEq, false_iff]; intro ⟨h, _⟩; have := (h x (by simp)).1; omega
   ·rw [if_neg h2]
    by_cases h3 : (x.kids.length : Int) ≠ kidsN x.kind
    ·rw [if_pos h3]; simp only [reduceCtorEq, false_iff]; intro ⟨h, _⟩; exact h3 (h x (by simp)).2.1
    ·rw [if_neg h3]
     by_cases h4 : (x.kind = 1 ∧ isNameB x.name = false) ∨ (x.kind ≠ 1 ∧ x.name ≠ ⟨#[]⟩)
     ·rw [if_pos h4]; simp only [reduceCtorEq, false_iff]; intro ⟨h, _⟩; exact (h x (by simp)).2.2 h4
     ·rw [if_neg h4, ih (i + 1) (by omega)]
      have hx : okN x := ⟨by omega, Decidable.not_not.1 h3, h4⟩
      simp only [List.mem_cons, forall_eq_or_imp, hx, true_and, List.length_cons]
      constructor
      ·rintro ⟨a, b⟩; exact ⟨a, by omega⟩
      ·rintro ⟨a, b⟩; exact ⟨a, by omega⟩
theorem formulaCheck_zero {f : Fm} (h : (formulaCheck f).1 = 0) : formulaCheck f = (0, 0) := by
 unfold formulaCheck at h ⊢
 cases hc : checkNodes (nodesGo 201 201 [f]) 0 with
 | none => rfl
 | some x => rw [hc] at h; exact absurd h (checkNodes_some _ _ _ hc)
theorem formulaCheck_iff (f : Fm) : (formulaCheck f).1 = 0 ↔ (∀ x ∈ pre f, okN x) ∧ (pre f).length ≤ 200 := by
 have hp : pres [f] = pre f := by rw [pres_cons, pres_nil, List.append_nil]
 constructor
 ·intro h
  unfold formulaCheck at h
  cases hc : checkNodes (nodesGo 201 201 [f]) 0 with
  | some x => rw [hc] at h; exact absurd h (checkNodes_some _ _ _ hc)
  | none =>
   rw [checkNodes_iff _ 0 (by omega)] at hc
   have hn := nodesGo_short 201 201 [f] (by omega) fun x hx => okN_kids (hc.1 x hx)
   rw [hn, hp] at hc
   exact ⟨hc.1, by omega⟩
 ·rintro ⟨h1, h2⟩
  have hn := nodesGo_long 201 201 [f] (by rw [hp]; omega) (by rw [hp]; exact fun x hx => okN_kids (h1 x hx))
  have hc : checkNodes (nodesGo 201 201 [f]) 0 = none := by
   rw [checkNodes_iff _ 0 (by omega), hn, hp]; exact ⟨h1, by omega⟩
  unfold formulaCheck; rw [hc]; rfl
theorem okF_of_pre : ∀ f : Fm, (∀ x ∈ pre f, okN x) → OkF (fun n => isNameB n = true) f := by
 intro f
 induction f using Fm.ind with
 | h f ih =>
  intro h
  have h0 := h f (by rw [pre_eq]; simp)
  cases f with
  | mk k nm l =>
   refine .mk h0.2.1 (fun hk => ?_) fun g hg => ih g hg fun x hx => h x ?_
   ·have := h0.2.2
    simp only [Fm.kind, Fm.name, hk, true_and, not_or] at this
    simpa using this.1
   ·rw [pre_eq]
    refine List.mem_cons_of_mem _ ?_
    have : ∀ l : List Fm, g ∈ l → x ∈ pres l := by
     intro l
     induction l with
     | nil => intro h; cases h
     | cons a r ihr =>
      intro h
      rw [pres_cons, List.mem_append]
      cases h with
      | head => exact .inl hx
      | tail _ h => exact .inr (ihr h)
    exact this l hg
end Go.Proofs.Ytcllmionhlmjfaa
namespace Go.Proofs.Ytcllmionhlmjfaa
open Go Go.Pv
theorem OkF.nine {N : ByteArray → Prop} {f : Fm} (h : OkF N f) : (∃ nm, N nm ∧ f = .mk 1 nm []) ∨ (∃ nm, f = .mk 2 nm []) ∨ (∃ nm, f = .mk 3 nm []) ∨ (∃ nm a, OkF N a ∧ f = .mk 4 nm [a]) ∨ (∃ nm a b, OkF N a ∧ OkF N b ∧ f = .mk 5 nm [a, b]) ∨
  (∃ nm a b, OkF N a ∧ OkF N b ∧ f = .mk 6 nm [a, b]) ∨ (∃ nm a b, OkF N a ∧ OkF N b ∧ f = .mk 7 nm [a, b]) ∨ (∃ nm a, OkF N a ∧ f = .mk 8 nm [a]) ∨ (∃ nm a, OkF N a ∧ f = .mk 9 nm [a]) := by
 cases h with
 | mk h hN g =>
  rename_i k nm l
  unfold kidsN at h
  have hk : k = 1 ∨ k = 2 ∨ k = 3 ∨ k = 4 ∨ k = 5 ∨ k = 6 ∨ k = 7 ∨ k = 8 ∨ k = 9 := by
   (repeat' split at h) <;> omega
  rcases hk with rfl | rfl | rfl | rfl | rfl | rfl | rfl | rfl | rfl <;> simp at h
  ·subst h; exact .inl ⟨nm, hN rfl, rfl⟩
  ·subst h; exact .inr (.inl ⟨nm, rfl⟩)
  ·subst h; exact .inr (.inr (.inl ⟨nm, rfl⟩))
  ·match l, h with | [a], _ => exact .inr (.inr (.inr (.inl ⟨nm, a, g a (by simp), rfl⟩)))
  ·match l, h with | [a, b], _ => exact .inr (.inr (.inr (.inr (.inl ⟨nm, a, b, g a (by simp), g b (by simp), rfl⟩))))
  ·match l, h with | [a, b], _ => exact .inr (.inr (.inr (.inr (.inr (.inl ⟨nm, a, b, g a (by simp), g b (by simp), rfl⟩)))))
  ·match l, h with | [a, b], _ => exact .inr (.inr (.inr (.inr (.inr (.inr (.inl ⟨nm, a, b, g a (by simp), g b (by simp), rfl⟩))))))
  ·match l, h with | [a], _ => exact .inr (.inr (.inr (.inr (.inr (.inr (.inr (.inl ⟨nm, a, g a (by simp), rfl⟩)))))))
  ·match l, h with | [a], _ => exact .inr (.inr (.inr (.inr (.inr (.inr (.inr (.inr ⟨nm, a, g a (by simp), rfl⟩)))))))
theorem take_snoc {α : Type} {l : List α} {i : Nat} (h : i < l.length) : l.take (i + 1) = l.take i ++ [l[i]] := by
 rw [List.take_add_one, List.getElem?_eq_getElem h]; rfl
theorem OkF.kids_le {N : ByteArray → Prop} {f : Fm} (h : OkF N f) : f.kids.length ≤ 2 := by
 rcases h.nine with ⟨nm, hn, rfl⟩ | ⟨nm, rfl⟩ | ⟨nm, rfl⟩ | ⟨nm, a, ha, rfl⟩ | ⟨nm, a, b, ha, hb, rfl⟩ | ⟨nm, a, b, ha, hb, rfl⟩ | ⟨nm, a, b, ha, hb, rfl⟩ | ⟨nm, a, ha, rfl⟩ | ⟨nm, a, ha, rfl⟩ <;> simp
theorem OkF.kid {N : ByteArray → Prop} {f g : Fm} (h : OkF N f) (hg : g ∈ f.kids) : OkF N g := by
 cases h with | mk a b c => exact c g hg
def eqL (r : Fm → Fm → Bool) : List Fm → List Fm → Bool
 | [], [] => true
 | a :: xs, b :: bs => r a b && eqL r xs bs
 | _, _ => false
theorem eqL_len {r : Fm → Fm → Bool} : ∀ {xs bs : List Fm}, xs.length ≠ bs.length → eqL r xs bs = false
 | [], [], h => absurd rfl h
 | [], _ :: _, _ => rfl
 | _ :: _, [], _ => rfl
 | a :: xs, b :: bs, h => by rw [eqL, eqL_len (xs := xs) (bs := bs) (by simpa using h), Bool.and_false]
theorem eqL_drop {r : Fm → Fm → Bool} {xs bs : List Fm} {i : Nat} (h : i < xs.length) (h' : i < bs.length) : eqL r (xs.drop i) (bs.drop i) = (r xs[i] bs[i] && eqL r (xs.drop (i + 1)) (bs.drop (i + 1))) := by
 rw [List.drop_eq_getElem_cons h, List.drop_eq_getElem_cons h', eqL]
noncomputable def sameB (f g : Fm) : Bool := @decide (f = g) (Classical.propDecidable _)
theorem sameB_iff {f g : Fm} : sameB f g = true ↔ f = g := by simp [sameB]
theorem eqL_same : ∀ xs bs : List Fm, eqL sameB xs bs = true ↔ xs = bs
 | [], [] => by simp [eqL]
 | [], _ :: _ => by simp [eqL]
 | _ :: _, [] => by simp [eqL]
 | a :: xs, b :: bs => by simp [eqL, sameB_iff, eqL_same xs bs]
theorem sameB_eq (f g : Fm) : sameB f g = (decide (f.kind = g.kind) && decide (f.name = g.name) && eqL sameB f.kids g.kids) := by
 rw [Bool.eq_iff_iff, sameB_iff, Bool.and_eq_true, Bool.and_eq_true, decide_eq_true_iff, decide_eq_true_iff, eqL_same]
 cases f; cases g
 simp [and_assoc]
theorem pres_mem {x g : Fm} (hx : x ∈ pre g) : ∀ l : List Fm, g ∈ l → x ∈ pres l
 | a :: r, h => by
  rw [pres_cons, List.mem_append]
  cases h with
  | head => exact .inl hx
  | tail _ h => exact .inr (pres_mem hx r h)
theorem mem_pres {x : Fm} : ∀ l : List Fm, x ∈ pres l → ∃ g ∈ l, x ∈ pre g
 | [], h => by rw [pres_nil] at h; cases h
 | a :: r, h => by
  rw [pres_cons, List.mem_append] at h
  rcases h with h | h
  ·exact ⟨a, by simp, h⟩
  ·obtain ⟨g, h1, h2⟩ := mem_pres r h; exact ⟨g, by simp [h1], h2⟩
theorem pres_len {g : Fm} : ∀ l : List Fm, g ∈ l → (pre g).length ≤ (pres l).length
 | a :: r, h => by
  rw [pres_cons, List.length_append]
  cases h with
  | head => omega
  | tail _ h => have := pres_len r h; omega
theorem pre_sub {N : ByteArray → Prop} (f : Fm) (hf : OkF N f) : ∀ x ∈ pre f, OkF N x ∧ (pre x).length ≤ (pre f).length ∧ ∀ y ∈ pre x, y ∈ pre f := by
 induction f using Fm.ind with
 | h f ih =>
  intro x hx
  rw [pre_eq] at hx
  cases hx with
  | head => exact ⟨hf, Nat.le_refl _, fun y h => h⟩
  | tail _ hx =>
   obtain ⟨g, h1, h2⟩ := mem_pres _ hx
   obtain ⟨h3, h4, h5⟩ := ih g h1 (hf.kid h1) x h2
   refine ⟨h3, ?_, fun y hy => ?_⟩
   ·have := pres_len _ h1
    rw [pre_eq f]; simp; omega
   ·rw [pre_eq f]; exact List.mem_cons_of_mem _ (pres_mem (h5 y hy) _ h1)
def memB (s : ByteArray) (L : List ByteArray) : Bool := L.any fun t => decide (s = t)
theorem memB_iff {s : ByteArray} {L : List ByteArray} : memB s L = true ↔ s ∈ L := by
 simp only [memB, List.any_eq_true, decide_eq_true_iff]
 exact ⟨fun ⟨t, h, e⟩ => e ▸ h, fun h => ⟨s, h, rfl⟩⟩
def Td (f : Fm) : Prop := ∀ x ∈ pre f, okN x
theorem Td.kid {f g : Fm} (h : Td f) (hg : g ∈ f.kids) : Td g := fun x hx => h x (by rw [pre_eq]; exact List.mem_cons_of_mem _ (pres_mem hx _ hg))
theorem Td.ok {f : Fm} (h : Td f) : OkF (fun n => isNameB n = true) f := okF_of_pre f h
theorem Td.nine {f : Fm} (h : Td f) : (∃ nm, isNameB nm = true ∧ f = .mk 1 nm []) ∨ (f = .mk 2 ⟨#[]⟩ []) ∨ (f = .mk 3 ⟨#[]⟩ []) ∨ (∃ a, Td a ∧ f = .mk 4 ⟨#[]⟩ [a]) ∨ (∃ a b, Td a ∧ Td b ∧ f = .mk 5 ⟨#[]⟩ [a, b]) ∨
  (∃ a b, Td a ∧ Td b ∧ f = .mk 6 ⟨#[]⟩ [a, b]) ∨ (∃ a b, Td a ∧ Td b ∧ f = .mk 7 ⟨#[]⟩ [a, b]) ∨ (∃ a, Td a ∧ f = .mk 8 ⟨#[]⟩ [a]) ∨ (∃ a, Td a ∧ f = .mk 9 ⟨#[]⟩ [a]) := by
 have hn := (h f (by rw [pre_eq]; exact List.mem_cons_self)).2.2
 rcases h.ok.nine with ⟨nm, hN, rfl⟩ | ⟨nm, rfl⟩ | ⟨nm, rfl⟩ | ⟨nm, a, ha, rfl⟩ | ⟨nm, a, b, ha, hb, rfl⟩ | ⟨nm, a, b, ha, hb, rfl⟩ | ⟨nm, a, b, ha, hb, rfl⟩ | ⟨nm, a, ha, rfl⟩ | ⟨nm, a, ha, rfl⟩
 all_goals simp only [Fm.kind, Fm.name] at hn
 ·exact .inl ⟨nm, hN, rfl⟩
 all_goals obtain rfl : nm = ⟨#[]⟩ := by (refine Classical.byContradiction fun g => hn (.inr ⟨by decide, g⟩))
 ·exact .inr (.inl rfl)
 ·exact .inr (.inr (.inl rfl))
 ·exact .inr (.inr (.inr (.inl ⟨a, h.kid (by simp [Fm.kids]), rfl⟩)))
 ·exact .inr (.inr (.inr (.inr (.inl ⟨a, b, h.kid (by simp [Fm.kids]), h.kid (by simp [Fm.kids]), rfl⟩))))
 ·exact .inr (.inr (.inr (.inr (.inr (.inl ⟨a, b, h.kid (by simp [Fm.kids]), h.kid (by simp [Fm.kids]), rfl⟩)))))
 ·exact .inr (.inr (.inr (.inr (.inr (.inr (.inl ⟨a, b, h.kid (by simp [Fm.kids]), h.kid (by simp [Fm.kids]), rfl⟩))))))
 ·exact .inr (.inr (.inr (.inr (.inr (.inr (.inr (.inl ⟨a, h.kid (by simp [Fm.kids]), rfl⟩)))))))
 ·exact .inr (.inr (.inr (.inr (.inr (.inr (.inr (.inr ⟨a, h.kid (by simp [Fm.kids]), rfl⟩)))))))
theorem Td.pre {f x : Fm} (h : Td f) (hx : x ∈ pre f) : Td x := fun y hy => h y ((pre_sub f h.ok x hx).2.2 y hy)
section
variable {n : Nat} {t : Nat → Nat → Bool} {hold : Nat → ByteArray → Bool} {w : Nat} {nm : ByteArray} {l : List Fm} {a b : Fm}
end
theorem td_check {f : Fm} (h : (formulaCheck f).1 = 0) : Td f := ((formulaCheck_iff f).1 h).1
mutual
def withF (nm : ByteArray) (g : Fm) : Fm → Fm
 | .mk k n l => if k = 1 ∧ n = nm then g else .mk k n (withFs nm g l)
def withFs (nm : ByteArray) (g : Fm) : List Fm → List Fm
 | [] => []
 | f :: r => withF nm g f :: withFs nm g r
end
theorem withFs_map (nm : ByteArray) (g : Fm) : ∀ l, withFs nm g l = l.map (withF nm g)
 | [] => by rw [withFs]; rfl
 | f :: r => by rw [withFs, withFs_map nm g r]; rfl
theorem withF_eq (nm : ByteArray) (g f : Fm) : withF nm g f = if f.kind = 1 ∧ f.name = nm then g else .mk f.kind f.name (f.kids.map (withF nm g)) := by
 cases f with | mk k n l => rw [withF, withFs_map]; rfl
theorem pres_ge : ∀ l : List Fm, l.length ≤ (pres l).length
 | [] => by simp
 | f :: r => by rw [pres_cons, pre_eq]; have := pres_ge r; simp; omega
theorem nodesGo_take (M : Nat) : ∀ (n : Nat) (st : List Fm), n ≤ M + 1 → nodesGo M n st = (pres st).take n := by
 intro n
 induction n with
 | zero => intro st h; rw [List.take_zero]; cases st <;> rfl
 | succ n ih =>
  intro st h
  cases st with
  | nil => rw [nodesGo_nil, pres_nil]; rfl
  | cons x r =>
   rw [nodesGo_succ, ih _ (by omega), pres_head, List.take_succ_cons]
   congr 1
   by_cases hx : x.kids.length ≤ M
   ·rw [List.take_of_length_le hx]
   ·have e : pres (x.kids ++ r) = pres (x.kids.take M) ++ (pres (x.kids.drop M) ++ pres r) := by
     rw [← List.append_assoc, ← pres_append, List.take_append_drop, pres_append]
    have hl : n ≤ (pres (x.kids.take M)).length := by
     have := pres_ge (x.kids.take M); rw [List.length_take] at this; omega
    rw [e, pres_append, List.take_append_of_le_length hl, List.take_append_of_le_length hl]
end Go.Proofs.Ytcllmionhlmjfaa
namespace Go.Proofs.Ytcllmionhlmjfaa
open Go Go.Pv
def x38_L0 : XC := .seq (.seq (.reg [⟨some 6,.move (.tmp 5),none⟩,⟨some 7,.move (.tmp 0),none⟩,⟨some 8,.call ⟨.builtin .len,#[.tmp 7],#[65]⟩,none⟩,⟨some 9,.binOp .lss 3 (.tmp 6) (.tmp 8) 3,none⟩]) (.cond (.tmp 9) .skip (.exit 0))) (.seq (.block 1 (.seq (.reg [⟨some 12,.move (.tmp 0),none⟩,⟨some 13,.move (.tmp 5),none⟩,⟨some 14,.indexAddr 65 (.tmp 12) (.tmp 13),none⟩,⟨some 15,.load 9 (.tmp 14),none⟩,⟨some 16,.move (.tmp 1),none⟩,⟨some 17,.binOp .eql 9 (.tmp 15) (.tmp 16) 9,none⟩]) (.cond (.tmp 17) (.seq (.reg [⟨some 4,.assign (.const (.bool true)),none⟩]) .ret) .skip))) (.reg [⟨some 10,.move (.tmp 5),none⟩,⟨some 11,.binOp .add 3 (.tmp 10) (.const (.int .i64 1)) 3,none⟩,⟨some 5,.assign (.tmp 11),none⟩]))
def x38 : XC := .seq (.reg [⟨some 4,.assign (.const (.bool false)),none⟩]) (.seq (.seq (.reg [⟨some 5,.assign (.const (.int .i64 0)),none⟩]) (.bloop 0 x38_L0)) (.seq (.reg [⟨some 4,.assign (.const (.bool false)),none⟩]) .ret))
@[simp] theorem x38_s {C e s K} : type_of% (@X_at C e s K _ _ x38_L0.eq_1) ∧ type_of% (@X_at C e s K _ _ x38.eq_1) := ⟨X_at x38_L0.eq_1, X_at x38.eq_1⟩
def an38 : Ann := ⟨[], [(0, [], [0, 1, 5], [4])], []⟩
@[simp] theorem an38_a : an38.loopOf 0 = ([], [0, 1, 5], [4]) := rfl
theorem fi38 : FI Try.prog 38 (cxA an38) x38 [.tmp 4] Try.f38 := fiA Try.func38 mixed
theorem HasText_ref (l : List ByteArray) (u : ByteArray) : CallOK Try.prog 38 [.list (l.map strRow), .str u] [] (.bool (memB u l)) [] := by
 refine fi38.op ?_
 ((refine Sg.h ?_); try repeat' ((first | (with_reducible first | refine brA ?_ | refine brE fun _ => ?_ | (refine spl ⟨?_, ?_⟩ <;> intro _))) <;> ((try simp -implicitDefEqProofs); (try simp -implicitDefEqProofs (disch := first | assumption | (try simp only [lens]); omega -splitDisjunctions)))))
 refine W_of fun Q hQ => ?_
 have main : ∀ n i, i + n = l.length → (∀ j (h : j < l.length), j < i → l[j] ≠ u) → Q [(0, .list (l.map strRow)), (1, .str u), (5, .int .i64 (i : Int))] [] := by
  intro n
  induction n with
  | zero =>
   intro i hi hl
   have hno : memB u l = false := by
    rw [Bool.eq_false_iff, Ne, memB_iff]
    intro h
    obtain ⟨j, hj, e⟩ := List.mem_iff_getElem.1 h
    exact hl j hj (by omega) e
   apply hQ
   ((refine Sg.h ?_); try repeat' ((first | (with_reducible first | refine brA ?_ | refine brE fun _ => ?_ | (refine spl ⟨?_, ?_⟩ <;> intro _))) <;> ((try simp -implicitDefEqProofs); (try simp -implicitDefEqProofs (disch := first | assumption | (try simp only [lens]); omega -splitDisjunctions)))))
   all_goals simp [hno]
  | succ n ih =>
   intro i hi hl
   have hlt : i < l.length := by omega
   by_cases hb : l[i] = u
   ·have hyes : memB u l = true := memB_iff.2 (hb ▸ List.getElem_mem hlt)
    apply hQ
    ((refine Sg.h ?_); try repeat' ((first | (with_reducible first | refine brA ?_ | refine brE fun _ => ?_ | (refine spl ⟨?_, ?_⟩ <;> intro _))) <;> ((try simp -implicitDefEqProofs); (try simp -implicitDefEqProofs (disch := first | assumption | (try simp only [lens]); omega -splitDisjunctions)))))
    all_goals simp_all
   ·have ih := ih (i + 1) (by omega) (fun j hj hji => by
     by_cases e : j = i
     ·subst e; exact hb
     ·exact hl j hj (by omega))
    apply hQ
    ((refine Sg.h ?_); try repeat' ((first | (with_reducible first | refine brA ?_ | refine brE fun _ => ?_ | (refine spl ⟨?_, ?_⟩ <;> intro _))) <;> ((try simp -implicitDefEqProofs); (try simp -implicitDefEqProofs (disch := first | assumption | (try simp only [lens]); omega -splitDisjunctions)))))
    all_goals first | (exfalso; simp_all; done) | simpa using ih
 refine at2 (main _ 0 (Nat.zero_add _) (fun j h hj => by omega)) ?_ ?_ <;> simp
end Go.Proofs.Ytcllmionhlmjfaa
namespace Go.Proofs.Ytcllmionhlmjfaa
open Go Go.Pv
def varsL (l : List Fm) : List ByteArray := (l.filter fun x => decide (x.kind = 1)).map Fm.name
theorem varsL_append (a b : List Fm) : varsL (a ++ b) = varsL a ++ varsL b := by simp [varsL]
theorem varsL_le (l : List Fm) : (varsL l).length ≤ l.length := by
 unfold varsL; rw [List.length_map]; exact List.length_filter_le _ _
theorem nodesGo_len (M : Nat) : ∀ (n : Nat) (st : List Fm), (nodesGo M n st).length ≤ n
 | 0, st => by simp [nodesGo]
 | n + 1, [] => by simp [nodesGo]
 | n + 1, x :: r => by rw [nodesGo_succ]; have := nodesGo_len M n (x.kids.take M ++ r); simp; omega
def varsS (l : List Fm) : List ByteArray := varsL (l.flatMap fun f => nodesGo 200 200 [f])
theorem varsS_snoc (l : List Fm) (f : Fm) : varsS (l ++ [f]) = varsS l ++ varsL (nodesGo 200 200 [f]) := by simp [varsS, varsL_append]
theorem varsS_len : ∀ (l : List Fm), (varsS l).length ≤ 200 * l.length
 | [] => by simp [varsS, varsL]
 | f :: r => by
  have h1 := varsS_len r
  have h2 := Nat.le_trans (varsL_le _) (nodesGo_len 200 200 [f])
  have e : varsS (f :: r) = varsL (nodesGo 200 200 [f]) ++ varsS r := by simp [varsS, varsL_append]
  rw [e, List.length_append, List.length_cons]; omega
def x76_T2 : XC := .seq (.reg [⟨some 31,.move (.tmp 3),none⟩,⟨some 32,.call ⟨.value (.func 103),#[.tmp 31],#[65]⟩,none⟩]) (.seq (.reg [⟨some 33,.move (.tmp 3),none⟩,⟨some 34,.call ⟨.value (.func 104),#[.tmp 33],#[65]⟩,none⟩,⟨some 2,.assign (.tmp 34),none⟩]) .ret)
def x76_L2 : XC := .seq (.reg [⟨some 18,.binOp .lss 3 (.tmp 17) (.tmp 16) 3,none⟩]) (.seq (.cond (.tmp 18) .skip (.exit 2)) (.seq (.block 3 (.seq (.reg [⟨some 19,.indexAddr 22 (.tmp 15) (.tmp 17),none⟩,⟨some 20,.load 24 (.tmp 19),none⟩,⟨some 7,.alloc 24,none⟩,⟨none,.store 24 (.tmp 7) (.tmp 20),none⟩]) (.seq (.reg [⟨some 21,.fieldAddr 24 (.tmp 7) 0,none⟩,⟨some 22,.load 3 (.tmp 21),none⟩,⟨some 23,.binOp .eql 3 (.tmp 22) (.const (.int .i64 1)) 3,none⟩]) (.cond (.tmp 23) (.reg [⟨some 24,.move (.tmp 3),none⟩,⟨some 25,.fieldAddr 24 (.tmp 7) 1,none⟩,⟨some 26,.load 9 (.tmp 25),none⟩,⟨some 27,.buildSlice 65 1 #[(0,.tmp 26)],none⟩,⟨some 28,.call ⟨.builtin .append,#[.tmp 24,.tmp 27],#[65,65]⟩,none⟩,⟨some 3,.assign (.tmp 28),none⟩]) .skip)))) (.reg [⟨some 29,.binOp .add 3 (.tmp 17) (.const (.int .i64 1)) 3,none⟩,⟨some 17,.move (.tmp 29),none⟩])))
def x76_L0 : XC := .seq (.reg [⟨some 11,.binOp .lss 3 (.tmp 10) (.tmp 9) 3,none⟩]) (.seq (.cond (.tmp 11) .skip (.exit 0)) (.seq (.block 1 (.seq (.reg [⟨some 12,.indexAddr 22 (.tmp 8) (.tmp 10),none⟩,⟨some 13,.load 24 (.tmp 12),none⟩,⟨some 5,.alloc 24,none⟩,⟨none,.store 24 (.tmp 5) (.tmp 13),none⟩]) (.seq (.reg [⟨some 14,.load 24 (.tmp 5),none⟩,⟨some 15,.call ⟨.value (.func 48),#[.tmp 14,.const (.int .i64 200)],#[24,3]⟩,none⟩,⟨some 16,.call ⟨.builtin .len,#[.tmp 15],#[22]⟩,none⟩,⟨some 17,.move (.const (.int .i64 0)),none⟩]) (.bloop 2 x76_L2)))) (.reg [⟨some 30,.binOp .add 3 (.tmp 10) (.const (.int .i64 1)) 3,none⟩,⟨some 10,.move (.tmp 30),none⟩])))
def x76 : XC := .seq (.reg [⟨some 2,.assign (.const (.slice none 0 0)),none⟩]) (.seq (.reg [⟨some 3,.assign (.const (.slice none 0 0)),none⟩]) (.seq (.seq (.reg [⟨some 8,.move (.tmp 0),none⟩,⟨some 9,.call ⟨.builtin .len,#[.tmp 8],#[22]⟩,none⟩,⟨some 10,.move (.const (.int .i64 0)),none⟩]) (.bloop 0 x76_L0)) (x76_T2)))
@[simp] theorem x76_s {C e s K} : type_of% (@X_at C e s K _ _ x76_T2.eq_1) ∧ type_of% (@X_at C e s K _ _ x76_L2.eq_1) ∧ type_of% (@X_at C e s K _ _ x76_L0.eq_1) ∧ type_of% (@X_at C e s K _ _ x76.eq_1) := ⟨X_at x76_T2.eq_1, X_at x76_L2.eq_1, X_at x76_L0.eq_1, X_at x76.eq_1⟩
def an76 : Ann := ⟨[], [(2, [(3, none, 1)], [3, 8, 9, 10, 15, 16, 17], [3, 8, 9, 10]), (0, [(3, none, 1)], [3, 8, 9, 10], [3])], []⟩
@[simp] theorem an76_a : an76.loopOf 2 = ([(3, none, 1)], [3, 8, 9, 10, 15, 16, 17], [3, 8, 9, 10]) ∧ an76.loopOf 0 = ([(3, none, 1)], [3, 8, 9, 10], [3]) := ⟨rfl, rfl⟩
theorem fi76 : FI Try.prog 76 (cxA an76) x76 [.tmp 2] Try.f76 := fiA Try.func76 mixed
theorem callOK_done {P : Program} {f : FuncId} {args : List PV} {v v' : PV} {s1 : Store} (h : CallOK P f args [] v s1) (e : deref s1 6 v = v') : CallOK P f args [] v' [] := by
 intro pub σ w cargs hb ha
 refine Calls.mono (h pub σ w cargs hb ha) ?_
 rintro en w' ⟨cv, pub', σ', rfl, hs, hr⟩
 have hσ : σ = noSig := funext fun i => hb.sig i (Nat.zero_le _)
 obtain ⟨p, t, h1, h2⟩ := RetView.done 6 e ⟨w, pub, σ, dom [] σ⟩ pub' σ' w' cv (fun i _ => by rw [hσ]; rfl) hs hr
 exact ⟨cv, p, t, rfl, h1, h2⟩
def namesS (l : List Fm) : List ByteArray := compL (sortL (varsS l))
def restS (l : List Fm) : List ByteArray := List.replicate ((varsS l).length - (namesS l).length) ⟨#[]⟩
theorem own_take {C R : List ByteArray} : deref [.rows 1 ((C ++ R).map strRow)] 6 (.sl 0 0 C.length) = .list (C.map strRow) := by
 simp
theorem names_own (l : List Fm) (hl : l.length ≤ 1000) : CallOK Try.prog 76 [.list (l.map frm)] [] (.sl 0 0 (namesS l).length) [.rows 1 ((namesS l ++ restS l).map strRow)] := by
 unfold restS namesS
 refine fi76.og ?_
 ((refine Sg.h ?_); try repeat' ((first | (with_reducible first | refine brA ?_ | refine brE fun _ => ?_ | (refine spl ⟨?_, ?_⟩ <;> intro _))) <;> ((try simp -implicitDefEqProofs); (try simp -implicitDefEqProofs (disch := first | assumption | (try simp only [lens]); omega -splitDisjunctions)))))
 refine W_of fun Q hQ => ?_
 have outer : ∀ r i, i + r = l.length → Q [(3, .sl 0 0 (varsS (l.take i)).length), (8, .list (l.map frm)), (9, .int .i64 (l.length : Int)), (10, .int .i64 (i : Int))] [.rows 1 ((varsS (l.take i)).map strRow)] := by
  intro r
  induction r with
  | zero =>
   intro i hi
   obtain rfl : i = l.length := by omega
   rw [List.take_length]
   have hvl := varsS_len l
   have hcl := compL_length (sortL (varsS l))
   rw [sortL_length] at hcl
   generalize varsS l = V at *
   apply hQ
   clear hQ
   ((refine Sg.h ?_); try repeat' ((first | (with_reducible first | refine brA ?_ | refine brE fun _ => ?_ | (refine spl ⟨?_, ?_⟩ <;> intro _))) <;> ((try simp -implicitDefEqProofs); (try simp -implicitDefEqProofs (disch := first | assumption | (try simp only [lens]); omega -splitDisjunctions)))))
   refine CL.of (sort_strs' V rfl rfl (by omega)) ?_
   ((refine Sg.h ?_); try repeat' ((first | (with_reducible first | refine brA ?_ | refine brE fun _ => ?_ | (refine spl ⟨?_, ?_⟩ <;> intro _))) <;> ((try simp -implicitDefEqProofs); (try simp -implicitDefEqProofs (disch := first | assumption | (try simp only [lens]); omega -splitDisjunctions)))))
   refine CL.of (compact_strs' (sortL V) rfl (sortL_length V) (by omega)) ?_
   generalize compL (sortL V) = C at *
   ((refine Sg.h ?_); try repeat' ((first | (with_reducible first | refine brA ?_ | refine brE fun _ => ?_ | (refine spl ⟨?_, ?_⟩ <;> intro _))) <;> ((try simp -implicitDefEqProofs); (try simp -implicitDefEqProofs (disch := first | assumption | (try simp only [lens]); omega -splitDisjunctions)))))
  | succ r ihr =>
   intro i hi
   have hil : i < l.length := by omega
   have ihr := ihr (i + 1) (by omega)
   rw [take_snoc hil, varsS_snoc] at ihr
   have hn := nodes_formula l[i] 200 (by decide) []
   have hL : (nodesGo 200 200 [l[i]]).length ≤ 200 := nodesGo_len 200 200 [l[i]]
   have hvl := varsS_len (l.take i)
   rw [List.length_take] at hvl
   generalize nodesGo 200 200 [l[i]] = L at *
   generalize varsS (l.take i) = V0 at *
   apply hQ
   clear hQ
   ((refine Sg.h ?_); try repeat' ((first | (with_reducible first | refine brA ?_ | refine brE fun _ => ?_ | (refine spl ⟨?_, ?_⟩ <;> intro _)) | refine clo hn ?_) <;> ((try simp -implicitDefEqProofs [hil]); (try simp -implicitDefEqProofs (disch := first | assumption | (try simp only [lens]); omega -splitDisjunctions) [hil]))))
   refine W_of fun Q2 hQ2 => ?_
   have main : ∀ k j, j + k = L.length → Q2 [(3, .sl 0 0 (V0 ++ varsL (L.take j)).length), (8, .list (l.map frm)), (9, .int .i64 (l.length : Int)), (10, .int .i64 (i : Int)), (15, .list (L.map frm)), (16, .int .i64 (L.length : Int)), (17, .int .i64 (j : Int))] [.rows 1 ((V0 ++ varsL (L.take j)).map strRow)] := by
    intro k
    induction k with
    | zero =>
     intro j hj
     obtain rfl : j = L.length := by omega
     rw [List.take_length]
     generalize V0 ++ varsL L = V1 at *
     apply hQ2
     clear hQ2 hn
     ((refine Sg.h ?_); try repeat' ((first | (with_reducible first | refine brA ?_ | refine brE fun _ => ?_ | (refine spl ⟨?_, ?_⟩ <;> intro _))) <;> ((try simp -implicitDefEqProofs); (try simp -implicitDefEqProofs (disch := first | assumption | (try simp only [lens]); omega -splitDisjunctions)))))
     all_goals first | exact ihr | (refine at2 ihr ?_ ?_ <;> simp; done) | (exfalso; first | omega | (simp_all; done) | (simp_all; omega))
    | succ k ih =>
     intro j hj
     have hjL : j < L.length := by omega
     have ih := ih (j + 1) (by omega)
     have hvi := varsL_le (L.take j)
     rw [List.length_take] at hvi
     rw [take_snoc hjL, varsL_append, ← List.append_assoc] at ih
     have hv1 : varsL [L[j]] = if L[j].kind = 1 then [L[j].name] else [] := by unfold varsL; rw [List.filter_cons, List.filter_nil]; split <;> simp_all
     rw [hv1] at ih
     have hV : (V0 ++ varsL (L.take j)).length ≤ 200 * l.length + 200 := by rw [List.length_append]; omega
     clear ihr hn hv1 hvl hvi
     generalize V0 ++ varsL (L.take j) = V at *
     apply hQ2
     clear hQ2
     by_cases hk : L[j].kind = 1
     ·simp only [hk, if_true] at ih
      ((refine Sg.h ?_); try repeat' ((first | (with_reducible first | refine brA ?_ | refine brE fun _ => ?_ | (refine spl ⟨?_, ?_⟩ <;> intro _))) <;> ((try simp -implicitDefEqProofs [hjL, hk]); (try simp -implicitDefEqProofs (disch := first | assumption | (try simp only [lens]); omega -splitDisjunctions) [hjL, hk]))))
      all_goals first | exact ih | (refine at2 ih ?_ ?_ <;> simp [strRow]; done) | (exfalso; first | omega | (simp_all; done) | (simp_all; omega))
     ·simp only [hk, if_false, List.append_nil] at ih
      ((refine Sg.h ?_); try repeat' ((first | (with_reducible first | refine brA ?_ | refine brE fun _ => ?_ | (refine spl ⟨?_, ?_⟩ <;> intro _))) <;> ((try simp -implicitDefEqProofs [hjL, hk]); (try simp -implicitDefEqProofs (disch := first | assumption | (try simp only [lens]); omega -splitDisjunctions) [hjL, hk]))))
      all_goals first | exact ih | (refine at2 ih ?_ ?_ <;> simp [strRow]; done) | (exfalso; first | omega | (simp_all; done) | (simp_all; omega))
   refine at2 (main _ 0 (Nat.zero_add _)) ?_ ?_ <;> simp [varsL]
 refine at2 (outer _ 0 (Nat.zero_add _)) ?_ ?_ <;> simp [varsS, varsL]
theorem names_formula (l : List Fm) (hl : l.length ≤ 1000) : CallOK Try.prog 76 [.list (l.map frm)] [] (.list ((namesS l).map strRow)) [] := callOK_done (names_own l hl) own_take
end Go.Proofs.Ytcllmionhlmjfaa
