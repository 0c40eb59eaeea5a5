/-
  Orders and lattices in plain Lean: a kind hangs on what stands below 'n' alone; the pairs of two orders side by side.
-/
import Derived.Test.YthnobaacfjihcaaAlgP
import Derived.Test.YthnobaacfjihcaaQAu
namespace Go.Proofs.Ythnobaacfjihcaa
open Go Go.Pv
set_option linter.unusedVariables false
set_option linter.unusedSimpArgs false

theorem all_cg {n : Nat} {p q : Nat → Bool} (h : ∀ x, x < n → p x = q x) : (List.range n).all p = (List.range n).all q := by
  rw [Bool.eq_iff_iff, List.all_eq_true, List.all_eq_true]
  exact ⟨fun g x hx => by rw [← h x (List.mem_range.1 hx)]; exact g x hx, fun g x hx => by rw [h x (List.mem_range.1 hx)]; exact g x hx⟩
theorem any_cg {n : Nat} {p q : Nat → Bool} (h : ∀ x, x < n → p x = q x) : (List.range n).any p = (List.range n).any q := by
  rw [Bool.eq_iff_iff, List.any_eq_true, List.any_eq_true]
  exact ⟨fun ⟨x, hx, g⟩ => ⟨x, hx, by rw [← h x (List.mem_range.1 hx)]; exact g⟩, fun ⟨x, hx, g⟩ => ⟨x, hx, by rw [h x (List.mem_range.1 hx)]; exact g⟩⟩
theorem find_cg {p q : Nat → Bool} : ∀ {l : List Nat}, (∀ x ∈ l, p x = q x) → l.find? p = l.find? q
  | [], _ => rfl
  | a :: r, h => by
    rw [List.find?_cons, List.find?_cons, h a List.mem_cons_self, find_cg fun x hx => h x (List.mem_cons_of_mem _ hx)]
theorem best_cg {n : Nat} {f f' : Nat → Bool} {g g' : Nat → Nat → Bool} (hf : ∀ c, c < n → f c = f' c) (hg : ∀ c d, c < n → d < n → g c d = g' c d) : bestI n f g = bestI n f' g' := by
  unfold bestI
  rw [find_cg (q := fun c => f' c && (List.range n).all fun d => !f' d || g' c d)]
  intro c hc
  have hc := List.mem_range.1 hc
  rw [hf c hc, all_cg (q := fun d => !f' d || g' c d)]
  intro d hd
  rw [hf d hd, hg c d hc hd]
theorem best_lt {n : Nat} {f : Nat → Bool} {g : Nat → Nat → Bool} (h : 0 < n) : (bestI n f g).toNat < n := by
  unfold bestI
  split
  · rename_i c hc
    have := List.mem_range.1 (List.mem_of_find?_eq_some hc)
    omega
  · exact h
section
variable {n : Nat} {t t' : Nat → Nat → Bool} (H : ∀ i j, i < n → j < n → t i j = t' i j)
include H
theorem join_cg {a b : Nat} (ha : a < n) (hb : b < n) : joinI n t a b = joinI n t' a b :=
  best_cg (fun c hc => by rw [H a c ha hc, H b c hb hc]) fun c d hc hd => H c d hc hd
theorem meet_cg {a b : Nat} (ha : a < n) (hb : b < n) : meetI n t a b = meetI n t' a b :=
  best_cg (fun c hc => by rw [H c a hc ha, H c b hc hb]) fun c d hc hd => H d c hd hc
theorem jn_cg {a b : Nat} (ha : a < n) (hb : b < n) : jn n t a b = jn n t' a b := by unfold jn; rw [join_cg H ha hb]
theorem mt_cg {a b : Nat} (ha : a < n) (hb : b < n) : mt n t a b = mt n t' a b := by unfold mt; rw [meet_cg H ha hb]
omit H in
theorem jn_in {a b : Nat} (h : 0 < n) : jn n t a b < n := best_lt h
omit H in
theorem mt_in {a b : Nat} (h : 0 < n) : mt n t a b < n := best_lt h
theorem isLat_cg : isLat n t = isLat n t' := by
  unfold isLat
  refine all_cg fun a ha => ?_
  rw [any_cg (p := fun b => decide (joinI n t a b = -1)) (q := fun b => decide (joinI n t' a b = -1)) fun b hb => by rw [join_cg H ha hb], any_cg (p := fun b => decide (meetI n t a b = -1)) (q := fun b => decide (meetI n t' a b = -1)) fun b hb => by rw [meet_cg H ha hb]]
omit H in
theorem each_cg {p q : Nat → Nat → Nat → Bool} (h : ∀ a b c, a < n → b < n → c < n → p a b c = q a b c) : each3 n p = each3 n q :=
  all_cg fun a ha => all_cg fun b hb => all_cg fun c hc => h a b c ha hb hc
theorem modL_cg : modL n t = modL n t' := each_cg fun a b c ha hb hc => by
  have h0 : 0 < n := by omega
  rw [H a c ha hc, mt_cg H hb hc, jn_cg H ha (mt_in h0), jn_cg H ha hb, mt_cg H (jn_in h0) hc]
theorem distL_cg : distL n t = distL n t' := each_cg fun a b c ha hb hc => by
  have h0 : 0 < n := by omega
  rw [jn_cg H hb hc, mt_cg H ha (jn_in h0), mt_cg H ha hb, mt_cg H ha hc, jn_cg H (mt_in h0) (mt_in h0)]
omit H in
theorem fold_cg {f g : Nat → Nat → Nat} (h : ∀ a b, a < n → b < n → f a b = g a b) (hl : ∀ a b, a < n → b < n → f a b < n) : ∀ (l : List Nat), (∀ x ∈ l, x < n) → ∀ a, a < n → l.foldl f a = l.foldl g a
  | [], _, _, _ => rfl
  | b :: r, hx, a, ha => by
    have hb := hx b List.mem_cons_self
    rw [List.foldl_cons, List.foldl_cons, ← h a b ha hb]
    exact fold_cg h hl r (fun x h => hx x (List.mem_cons_of_mem _ h)) _ (hl a b ha hb)
theorem top_cg (h0 : 0 < n) : topL n t = topL n t' := fold_cg (fun a b ha hb => jn_cg H ha hb) (fun a b ha hb => jn_in h0) _ (fun x hx => List.mem_range.1 hx) 0 h0
theorem bot_cg (h0 : 0 < n) : botL n t = botL n t' := fold_cg (fun a b ha hb => mt_cg H ha hb) (fun a b ha hb => mt_in h0) _ (fun x hx => List.mem_range.1 hx) 0 h0
theorem comp_cg : compL n t = compL n t' := all_cg fun a ha => any_cg fun b hb => by
  have h0 : 0 < n := by omega
  rw [jn_cg H ha hb, mt_cg H ha hb, top_cg H h0, bot_cg H h0]
theorem kind_cg : kindL n t = kindL n t' := by
  unfold kindL
  rw [isLat_cg H, modL_cg H, distL_cg H, comp_cg H]
end
/-! the pairs of two orders side by side -/
section
variable (n m : Nat) (s t : Nat → Nat → Bool)
def pq4 (a b c d : Nat) : List (Int × Int) := if s a c = true ∧ t b d = true ∧ ¬ (a = c ∧ b = d) then [(((a * m + b : Nat) : Int), ((c * m + d : Nat) : Int))] else []
def pq3 (a b c : Nat) : List (Int × Int) := (List.range m).flatMap (pq4 m s t a b c)
def pq2 (a b : Nat) : List (Int × Int) := (List.range n).flatMap (pq3 m s t a b)
def pq1 (a : Nat) : List (Int × Int) := (List.range m).flatMap (pq2 n m s t a)
def pq : List (Int × Int) := (List.range n).flatMap (pq1 n m s t)
end
theorem fm_succ {α : Type} {f : Nat → List α} {k : Nat} : (List.range (k + 1)).flatMap f = (List.range k).flatMap f ++ f k := by
  rw [List.range_succ, List.flatMap_append, List.flatMap_cons, List.flatMap_nil, List.append_nil]
theorem fm_len {α : Type} {f : Nat → List α} {z : Nat} (h : ∀ i, (f i).length ≤ z) : ∀ k, ((List.range k).flatMap f).length ≤ k * z
  | 0 => by simp
  | k + 1 => by
    rw [fm_succ, List.length_append, Nat.succ_mul]
    have := fm_len h k
    have := h k
    omega
section
variable {n m : Nat} {s t : Nat → Nat → Bool}
theorem pq4_len {a b c d : Nat} : (pq4 m s t a b c d).length ≤ 1 := by unfold pq4; split <;> simp
theorem pq3_len {a b c : Nat} : (pq3 m s t a b c).length ≤ m := by have := fm_len (f := pq4 m s t a b c) (fun i => pq4_len) m; rwa [Nat.mul_one] at this
theorem pq2_len {a b : Nat} : (pq2 n m s t a b).length ≤ n * m := fm_len (fun i => pq3_len) n
theorem pq1_len {a : Nat} : (pq1 n m s t a).length ≤ m * (n * m) := fm_len (fun i => pq2_len) m
theorem pq_len : (pq n m s t).length ≤ n * (m * (n * m)) := fm_len (fun i => pq1_len) n
theorem pq_mem {x y : Int} : (x, y) ∈ pq n m s t ↔ ∃ a b c d, a < n ∧ b < m ∧ c < n ∧ d < m ∧ s a c = true ∧ t b d = true ∧ ¬ (a = c ∧ b = d) ∧ x = ((a * m + b : Nat) : Int) ∧ y = ((c * m + d : Nat) : Int) := by
  simp only [pq, pq1, pq2, pq3, List.mem_flatMap, List.mem_range]
  constructor
  · rintro ⟨a, ha, b, hb, c, hc, d, hd, h⟩
    unfold pq4 at h
    split at h
    · rename_i g
      simp only [List.mem_singleton, Prod.mk.injEq] at h
      exact ⟨a, b, c, d, ha, hb, hc, hd, g.1, g.2.1, g.2.2, h.1, h.2⟩
    · cases h
  · rintro ⟨a, b, c, d, ha, hb, hc, hd, g1, g2, g3, rfl, rfl⟩
    refine ⟨a, ha, b, hb, c, hc, d, hd, ?_⟩
    unfold pq4
    rw [if_pos ⟨g1, g2, g3⟩]
    exact List.mem_singleton_self _
theorem pq_le (S : PO n s) (T : PO m t) (hn : 0 < n) (hm : 0 < m) {i j : Nat} (hi : i < n * m) (hj : j < n * m) : leB (pq n m s t) i j = prT m s t i j := by
  rw [Bool.eq_iff_iff, leB_iff]
  have P := pr_po S T hn hm
  constructor
  · intro h
    have key : ∀ j, Rch (pq n m s t) i j → j < n * m ∧ prT m s t i j = true := by
      intro j h
      induction h with
      | refl => exact ⟨hi, P.refl i hi⟩
      | @step j k h g ih =>
        obtain ⟨a, b, c, d, ha, hb, hc, hd, g1, g2, g3, h1, h2⟩ := pq_mem.1 g
        have h1 : j = a * m + b := by omega
        have h2 : k = c * m + d := by omega
        subst h1 h2
        exact ⟨pr_lt hc hd, P.trans i _ _ hi (pr_lt ha hb) (pr_lt hc hd) ih.2 (by rw [prT_at hb hd, g1, g2]; rfl)⟩
    exact (key j h).2
  · intro h
    by_cases e : i = j
    · subst e; exact .refl _
    · unfold prT at h
      rw [Bool.and_eq_true] at h
      refine .step (.refl _) (pq_mem.2 ⟨i / m, i % m, j / m, j % m, pr_d hi, Nat.mod_lt _ hm, pr_d hj, Nat.mod_lt _ hm, h.1, h.2, fun ⟨h1, h2⟩ => e ?_, ?_, ?_⟩)
      · rw [← pr_self hm (x := i), h1, h2, pr_self hm]
      · rw [pr_self hm]
      · rw [pr_self hm]
end
end Go.Proofs.Ythnobaacfjihcaa
