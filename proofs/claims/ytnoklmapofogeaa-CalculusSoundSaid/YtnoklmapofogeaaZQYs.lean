import Derived.Test.YtnoklmapofogeaaZPvData
import Derived.DataReads
import Derived.ChangeShapes
import Derived.WalkKit
import Derived.ProofKit
import Derived.OpenShut
import Derived.Below
import Derived.Carry
import Derived.SizedLaws
import Derived.Test.YtnoklmapofogeaaZTy
import Derived.Test.YtnoklmapofogeaaZCcP
import Derived.Test.YtnoklmapofogeaaZCcT
import Derived.Test.YtnoklmapofogeaaZQTw
import Derived.Test.YtnoklmapofogeaaZCcH
import Derived.Test.YtnoklmapofogeaaZCcJ
import Derived.Test.YtnoklmapofogeaaZQRF
import Derived.Test.YtnoklmapofogeaaRows
namespace Go.Pv
open Go
set_option linter.unusedVariables false
set_option linter.unusedSimpArgs false

inductive HasTy (P : Program) : TypeId → List PV → Prop where
  | bool {t b} (h : P.underlying t = some .bool) : HasTy P t [.bool b]
  | int {t k n} (h : P.underlying t = some (.int k)) (wf : (Lit.int k n).wf = true) : HasTy P t [.int k n]
  | str {t s} (h : P.underlying t = some .string) (hs : s.size ≤ maxLen) (hb : s.size ≤ reachBytes) : HasTy P t [.str s]
  | slice {t e rows} (h : P.underlying t = some (.slice e)) (hr : ∀ row ∈ rows, HasTy P e row) (hb : rows.length * P.bytesOf e ≤ reachBytes) : HasTy P t [.list rows]
  | struct {t} {fs : Array Field} {parts : List (List PV)} (h : P.underlying t = some (.struct fs)) (hl : parts.length = fs.size)
      (hp : ∀ (i : Nat) (f : Field) (row : List PV), fs[i]? = some f → parts[i]? = some row → HasTy P f.type row) : HasTy P t parts.flatten
  | array {t n e} {parts : List (List PV)} (h : P.underlying t = some (.array n e)) (hl : parts.length = n) (hp : ∀ row ∈ parts, HasTy P e row) : HasTy P t parts.flatten

def RowRel (pub : PHeap) (row : List PV) (cs : List Value) : Prop := row.length = cs.length ∧ ∀ (j : Nat) (v : PV) (c : Value), row[j]? = some v → cs[j]? = some c → Rel pub noSig v c
theorem RowRel.nil {pub : PHeap} : RowRel pub [] [] := ⟨rfl, fun j v c h => by simp at h⟩
theorem RowRel.one {pub : PHeap} {v : PV} {c : Value} (h : Rel pub noSig v c) : RowRel pub [v] [c] := ⟨rfl, fun j x y hx hy => by
  cases j with
  | zero => simp at hx hy; subst hx hy; exact h
  | succ j => simp at hx⟩
theorem RowRel.append {pub : PHeap} {r r' : List PV} {cs cs' : List Value} (h : RowRel pub r cs) (g : RowRel pub r' cs') : RowRel pub (r ++ r') (cs ++ cs') := by
  refine ⟨by simp [h.1, g.1], fun j v c hv hc => ?_⟩
  rw [List.getElem?_append] at hv hc
  split at hv
  · rename_i hlt; rw [if_pos (by rw [← h.1]; exact hlt)] at hc; exact h.2 j v c hv hc
  · rename_i hge; rw [if_neg (by rw [← h.1]; exact hge), ← h.1] at hc; exact g.2 _ v c hv hc

def contig (P : Program) (total : Nat) : List Field → Nat → Bool
  | [], o => o == total
  | f :: r, o => f.offset == o && contig P total r (o + P.cellsOf f.type)
def tyOK (P : Program) (S : List TypeId) (t : TypeId) : Bool := match P.underlying t with
  | some .bool | some (.int _) | some .string => true
  | some (.slice e) => S.contains e && decide (0 < P.cellsOf e)
  | some (.struct fs) => contig P (P.cellsOf t) fs.toList 0 && fs.toList.all fun f => S.contains f.type
  | some (.array n e) => S.contains e && n * P.cellsOf e == P.cellsOf t
  | _ => false

theorem rows_of {α : Type} (p : Nat → α → Prop) : ∀ n, (∀ i, i < n → ∃ x, p i x) → ∃ l : List α, l.length = n ∧ ∀ i x, l[i]? = some x → p i x := by
  intro n
  induction n with
  | zero => intro _; exact ⟨[], rfl, fun i x h => by simp at h⟩
  | succ n ih =>
    intro h
    obtain ⟨l, hl, hp⟩ := ih fun i hi => h i (by omega)
    obtain ⟨x, hx⟩ := h n (by omega)
    refine ⟨l ++ [x], by simp [hl], fun i y hy => ?_⟩
    rw [List.getElem?_append] at hy
    split at hy
    · exact hp i y hy
    · rename_i hge
      have hi := lt_of_getElem? hy
      simp only [List.length_cons, List.length_nil] at hi
      have hin : i = n := by omega
      subst hin
      rw [show i - l.length = 0 by omega] at hy
      simp at hy; subst hy; exact hx

section
variable {H : Type} {enc : TypeId × Value → H} {P : Program} {S : List TypeId} {w : World} {spare : Nat → Bool} {held : Bool}

theorem fields_rel {fuel total : Nat} {cs : List Value} {pub : PHeap} (hcs : cs.length = total)
    (ih : ∀ (t : TypeId) (cs : List Value) (x : DataW H × List MemPlace), S.contains t = true → DataW.trod enc P w 0 spare held fuel t cs = some x → (∀ n ∈ DataW.weights P t x.1, n ≤ reachBytes) → ∃ row, HasTy P t row ∧ RowRel pub row cs) :
    ∀ (fs : List Field) (o : Nat) (xs : List (DataW H × List MemPlace)), contig P total fs o = true → (fs.all fun f => S.contains f.type) = true →
      (fs.mapM fun f => DataW.trod enc P w 0 spare held fuel f.type ((cs.drop f.offset).take (P.cellsOf f.type))) = some xs → (∀ n ∈ DataW.weightsEach P (fs.map (·.type)) (xs.map (·.1)), n ≤ reachBytes) →
      o ≤ total ∧ ∃ parts : List (List PV), parts.length = fs.length ∧ (∀ (i : Nat) (f : Field) (row : List PV), fs[i]? = some f → parts[i]? = some row → HasTy P f.type row) ∧ RowRel pub parts.flatten (cs.drop o) := by
  intro fs
  induction fs with
  | nil =>
    intro o xs hc _ _ _
    simp only [contig, beq_iff_eq] at hc
    refine ⟨by omega, [], rfl, fun i f row h => by simp at h, ?_⟩
    rw [List.drop_eq_nil_of_le (by omega)]; exact .nil
  | cons f r ih2 =>
    intro o xs hc ha hm hw
    simp only [contig, Bool.and_eq_true, beq_iff_eq] at hc
    simp only [List.all_cons, Bool.and_eq_true] at ha
    obtain ⟨ho, hc⟩ := hc
    rw [List.mapM_cons] at hm
    cases hx : DataW.trod enc P w 0 spare held fuel f.type ((cs.drop f.offset).take (P.cellsOf f.type)) with
    | none => rw [hx] at hm; simp at hm
    | some x =>
      cases hxs : (r.mapM fun f => DataW.trod enc P w 0 spare held fuel f.type ((cs.drop f.offset).take (P.cellsOf f.type))) with
      | none => rw [hx, hxs] at hm; simp at hm
      | some ys =>
        rw [hx, hxs] at hm
        obtain rfl : x :: ys = xs := by simpa using hm
        simp only [List.map_cons, DataW.weightsEach, List.mem_append] at hw
        obtain ⟨h1, parts, h2, h3, h4⟩ := ih2 _ ys hc ha.2 hxs fun n hn => hw n (.inr hn)
        obtain ⟨row, g1, g2⟩ := ih _ _ _ ha.1 hx fun n hn => hw n (.inl hn)
        refine ⟨by omega, row :: parts, by simp [h2], fun i f' row' hf hr => ?_, ?_⟩
        · cases i with
          | zero => simp at hf hr; subst hf hr; exact g1
          | succ i => exact h3 i f' row' (by simpa using hf) (by simpa using hr)
        · rw [List.flatten_cons]
          have hsplit : cs.drop o = (cs.drop o).take (P.cellsOf f.type) ++ cs.drop (o + P.cellsOf f.type) := by
            rw [← List.drop_drop, List.take_append_drop]
          rw [hsplit, ← ho]
          rw [← ho] at h4
          exact g2.append h4

theorem elems_rel {fuel : Nat} {cs : List Value} {pub : PHeap} {e : TypeId} (hin : S.contains e = true)
    (ih : ∀ (t : TypeId) (cs : List Value) (x : DataW H × List MemPlace), S.contains t = true → DataW.trod enc P w 0 spare held fuel t cs = some x → (∀ n ∈ DataW.weights P t x.1, n ≤ reachBytes) → ∃ row, HasTy P t row ∧ RowRel pub row cs) :
    ∀ (k i : Nat) (xs : List (DataW H × List MemPlace)), cs.length = (i + k) * P.cellsOf e →
      ((List.range' i k).mapM fun i => DataW.trod enc P w 0 spare held fuel e ((cs.drop (i * P.cellsOf e)).take (P.cellsOf e))) = some xs → (∀ n ∈ DataW.weightsAll P e (xs.map (·.1)), n ≤ reachBytes) →
      ∃ parts : List (List PV), parts.length = k ∧ (∀ row ∈ parts, HasTy P e row) ∧ RowRel pub parts.flatten (cs.drop (i * P.cellsOf e)) := by
  intro k
  induction k with
  | zero =>
    intro i xs hc _ _
    refine ⟨[], rfl, by simp, ?_⟩
    rw [List.drop_eq_nil_of_le (by rw [hc]; exact Nat.le_refl _)]; exact .nil
  | succ k ih2 =>
    intro i xs hc hm hw
    rw [List.range'_succ, List.mapM_cons] at hm
    cases hx : DataW.trod enc P w 0 spare held fuel e ((cs.drop (i * P.cellsOf e)).take (P.cellsOf e)) with
    | none => rw [hx] at hm; simp at hm
    | some x =>
      cases hxs : ((List.range' (i + 1) k).mapM fun i => DataW.trod enc P w 0 spare held fuel e ((cs.drop (i * P.cellsOf e)).take (P.cellsOf e))) with
      | none => rw [hx, hxs] at hm; simp at hm
      | some ys =>
        rw [hx, hxs] at hm
        obtain rfl : x :: ys = xs := by simpa using hm
        simp only [List.map_cons, DataW.weightsAll, List.mem_append] at hw
        obtain ⟨parts, h2, h3, h4⟩ := ih2 (i + 1) ys (by rw [hc]; congr 1; omega) hxs fun n hn => hw n (.inr hn)
        obtain ⟨row, g1, g2⟩ := ih _ _ _ hin hx fun n hn => hw n (.inl hn)
        refine ⟨row :: parts, by simp [h2], fun row' hr => ?_, ?_⟩
        · rcases List.mem_cons.1 hr with rfl | hr
          · exact g1
          · exact h3 _ hr
        · rw [List.flatten_cons]
          have hsplit : cs.drop (i * P.cellsOf e) = (cs.drop (i * P.cellsOf e)).take (P.cellsOf e) ++ cs.drop ((i + 1) * P.cellsOf e) := by
            rw [Nat.add_mul, Nat.one_mul, ← List.drop_drop, List.take_append_drop]
          rw [hsplit]
          exact g2.append h4

def heapOf (w : World) : PHeap := fun b => w.heap[b]?

theorem cell_block {w : World} {a : Addr} {c : Value} (h : w.cell? a = some c) : a.spot = none ∧ ∃ cs ty fr, w.heap[a.block]? = some (.cells cs ty fr) ∧ cs[a.off]? = some c := by
  unfold World.cell? at h
  split at h
  · rename_i cs ty fr hh
    split at h
    · cases h
    · rename_i hs; exact ⟨by simpa using hs, cs, ty, fr, hh, h⟩
  · cases h

theorem weightsAll_mem {H : Type} {P : Program} {e : TypeId} : ∀ {l : List (DataW H)} {d : DataW H} {n : Nat}, d ∈ l → n ∈ DataW.weights P e d → n ∈ DataW.weightsAll P e l
  | a :: r, d, n, h, hn => by
    simp only [DataW.weightsAll, List.mem_append]
    rcases List.mem_cons.1 h with rfl | h
    · exact .inl hn
    · exact .inr (weightsAll_mem h hn)
theorem trod_rel (hS : ∀ t, S.contains t = true → tyOK P S t = true) : ∀ (fuel : Nat) (t : TypeId) (cs : List Value) (x : DataW H × List MemPlace), S.contains t = true →
    DataW.trod enc P w 0 spare held fuel t cs = some x → (∀ n ∈ DataW.weights P t x.1, n ≤ reachBytes) → ∃ row, HasTy P t row ∧ RowRel (heapOf w) row cs := by
  intro fuel
  induction fuel with
  | zero => intro t cs x _ h; simp [DataW.trod] at h
  | succ fuel ih =>
    intro t cs x hin h hw
    have hok := hS t hin
    unfold tyOK at hok
    unfold DataW.trod at h
    split at hok
    · rename_i hu
      rw [hu] at h
      split at h <;> first | (cases h; done) | skip
      all_goals first | (rename_i heq; cases heq; done) | skip
      exact ⟨_, .bool hu, .one .bool⟩
    · rename_i k hu
      rw [hu] at h
      split at h <;> first | (cases h; done) | skip
      all_goals first | (rename_i heq; cases heq; done) | skip
      rename_i heq; cases heq
      split at h
      · rename_i hk; obtain ⟨rfl, hwf⟩ := hk; exact ⟨_, .int hu hwf, .one .int⟩
      · cases h
    · rename_i hu
      rw [hu] at h
      split at h <;> first | (cases h; done) | skip
      all_goals first | (rename_i heq; cases heq; done) | skip
      split at h
      · rename_i s hs
        cases h
        exact ⟨_, .str hu hs (by simpa [DataW.weights] using hw), .one (.str hs)⟩
      · cases h
    · rename_i e hu
      rw [hu] at h
      simp only [Bool.and_eq_true, decide_eq_true_eq] at hok
      split at h <;> first | (cases h; done) | skip
      all_goals first | (rename_i heq; cases heq; done) | skip
      · exact ⟨[.list []], .slice hu (fun row hr => by cases hr) (by simp), .one (.list0 (Nat.zero_le _))⟩
      · rename_i e' a len cap heq
        cases heq
        simp only at h
        split at h
        · rename_i hc
          obtain ⟨_, hlc, hcm⟩ := hc
          obtain ⟨elems, hm, h⟩ := Option.bind_eq_some_iff.1 h
          obtain ⟨rest, hrest, rfl⟩ := Option.map_eq_some_iff.1 h
          simp only [DataW.weights, hu, List.mem_cons, List.mem_append] at hw
          by_cases h0 : len = 0
          · subst h0
            exact ⟨[.list []], .slice hu (fun row hr => by cases hr) (by simp), .one (.list0 hcm)⟩
          · have hel : ∀ i, i < len → ∃ row : List PV, HasTy P e row ∧ ∃ ec : List Value, ec.length = P.cellsOf e ∧ (∀ j, j < P.cellsOf e → w.cell? ((a.add (i * P.cellsOf e)).add j) = ec[j]?) ∧ RowRel (heapOf w) row ec := by
              intro i hi
              have hx := mapM_some_get hm i i (by simp [hi])
              have hl := mapM_some_length hm
              simp only [List.length_range] at hl
              rw [List.getElem?_eq_getElem (by omega)] at hx
              obtain ⟨ec, h1, h2⟩ := Option.bind_eq_some_iff.1 hx
              obtain ⟨_, h3, h4⟩ := World.cells?_some h1
              obtain ⟨row, g1, g2⟩ := ih e ec _ hok.1 h2 fun n hn => hw n (.inr (.inl (weightsAll_mem (List.mem_map.2 ⟨_, List.getElem_mem _, rfl⟩) hn)))
              exact ⟨row, g1, ec, h3, h4, g2⟩
            obtain ⟨rows, hrl, hrp⟩ := rows_of _ len hel
            -- the block
            have h00 : w.cell? ((a.add (0 * P.cellsOf e)).add 0) = w.cell? a := by simp [Addr.add]
            obtain ⟨_, _, ec0, hec0, hcell0, _⟩ := hel 0 (by omega)
            have hc0 : w.cell? a = some (ec0[0]'(by omega)) := by
              rw [← h00, hcell0 0 hok.2]; exact List.getElem?_eq_getElem _
            obtain ⟨hsp, arr, ty, fr, hblk, _⟩ := cell_block hc0
            obtain ⟨b, o, sp⟩ := a
            simp only at hsp hblk
            subst hsp
            have hcellat : ∀ i, i < len → ∀ j, j < P.cellsOf e → w.cell? (((⟨b, o, none⟩ : Addr).add (i * P.cellsOf e)).add j) = arr[o + i * P.cellsOf e + j]? := by
              intro i _ j _
              rw [Addr.add_at, Addr.add_at, cell_at hblk]
            have hsz : o + rows.length * P.cellsOf e ≤ arr.size := by
              obtain ⟨_, _, ec, hec, hcell, _⟩ := hel (len - 1) (by omega)
              have h1 := hcell (P.cellsOf e - 1) (by omega)
              rw [hcellat (len - 1) (by omega) _ (by omega), List.getElem?_eq_getElem (by omega)] at h1
              have h2 : o + (len - 1) * P.cellsOf e + (P.cellsOf e - 1) < arr.size := by
                rcases Nat.lt_or_ge (o + (len - 1) * P.cellsOf e + (P.cellsOf e - 1)) arr.size with h | h
                · exact h
                · rw [Array.getElem?_eq_none h] at h1; cases h1
              rw [hrl]
              have h3 : len * P.cellsOf e = (len - 1) * P.cellsOf e + P.cellsOf e := by
                rw [← Nat.succ_mul]; congr 1; omega
              omega
            refine ⟨[.list rows], .slice hu (fun row hr => ?_) ?_, .one ?_⟩
            rotate_left
            · have h1 := hw _ (.inl rfl)
              have hl := mapM_some_length hm
              simp only [List.length_map, List.length_range] at h1 hl
              rw [hrl, ← hl]
              exact Nat.le_trans (Nat.mul_le_mul_right _ (Nat.le_add_right _ _)) h1
            rotate_left
            · obtain ⟨i, hi⟩ := List.mem_iff_getElem?.1 hr
              exact (hrp i row hi).1
            · have key : Rel (heapOf w) noSig (.list rows) (.slice (some ⟨b, o, none⟩) rows.length cap) := by
                refine .list (esz := P.cellsOf e) hblk (by omega) hcm ?_ hsz ?_
                · intro r row hr
                  obtain ⟨_, ec, h1, _, h3⟩ := hrp r row hr
                  rw [h3.1, h1]
                · intro r row j v c hr hj hcc
                  have hrlt := lt_of_getElem? hr
                  obtain ⟨_, ec, h1, h2, h3⟩ := hrp r row hr
                  have hjl := lt_of_getElem? hj
                  have h4 := h3.1
                  have h5 := h2 j (by omega)
                  rw [hcellat r (by omega) j (by omega), hcc] at h5
                  exact h3.2 j v c hj h5.symm
              rw [hrl] at key
              exact key
        · cases h
    · rename_i fs hu
      rw [hu] at h
      simp only [Bool.and_eq_true] at hok
      have h' : (if cs.length = P.cellsOf t then (fs.toList.mapM fun f => DataW.trod enc P w 0 spare held fuel f.type ((cs.drop f.offset).take (P.cellsOf f.type))).map fun xs => ((DataW.agg (xs.map (·.1)) : DataW H), xs.flatMap (·.2)) else none) = some x := by
        split at h
        all_goals first | (rename_i heq; cases heq; exact h) | (rename_i heq; cases heq; done) | (exfalso; simp only [Option.some.injEq, reduceCtorEq] at *; done) | (simp_all; done)
      split at h'
      · rename_i hlen
        obtain ⟨xs, hm, rfl⟩ := Option.map_eq_some_iff.1 h'
        simp only [DataW.weights, hu] at hw
        obtain ⟨_, parts, h1, h2, h3⟩ := fields_rel hlen ih fs.toList 0 xs hok.1 hok.2 hm hw
        refine ⟨parts.flatten, .struct hu (by simpa using h1) (fun i f row hf hr => h2 i f row (by simpa using hf) hr), by simpa using h3⟩
      · cases h'
    · rename_i n e hu
      rw [hu] at h
      simp only [Bool.and_eq_true, beq_iff_eq] at hok
      have h' : (if cs.length = P.cellsOf t then ((List.range n).mapM fun i => DataW.trod enc P w 0 spare held fuel e ((cs.drop (i * P.cellsOf e)).take (P.cellsOf e))).map fun xs => ((DataW.agg (xs.map (·.1)) : DataW H), xs.flatMap (·.2)) else none) = some x := by
        split at h
        all_goals first | (rename_i heq; cases heq; exact h) | (rename_i heq; cases heq; done) | (exfalso; simp only [Option.some.injEq, reduceCtorEq] at *; done) | (simp_all; done)
      split at h'
      · rename_i hlen
        obtain ⟨xs, hm, rfl⟩ := Option.map_eq_some_iff.1 h'
        rw [List.range_eq_range'] at hm
        simp only [DataW.weights, hu] at hw
        obtain ⟨parts, h1, h2, h3⟩ := elems_rel hok.1 ih n 0 xs (by rw [hlen, ← hok.2]; congr 1; omega) hm hw
        refine ⟨parts.flatten, .array hu h1 h2, by simpa using h3⟩
      · cases h'
    · cases hok
end

section
variable {P : Program} {t : TypeId} {row : List PV}
theorem HasTy.int' {k : IntKind} (hu : P.underlying t = some (.int k)) (h : HasTy P t row) : ∃ n, row = [.int k n] ∧ (Lit.int k n).wf = true := by
  cases h with
  | bool h1 => rw [h1] at hu; cases hu
  | int h1 wf => rw [h1] at hu; cases hu; exact ⟨_, rfl, wf⟩
  | str h1 hs hb => rw [h1] at hu; cases hu
  | slice h1 hr hb => rw [h1] at hu; cases hu
  | struct h1 hl hp => rw [h1] at hu; cases hu
  | array h1 hl hp => rw [h1] at hu; cases hu
theorem HasTy.str' (hu : P.underlying t = some .string) (h : HasTy P t row) : ∃ s, row = [.str s] ∧ s.size ≤ maxLen := by
  cases h with
  | bool h1 => rw [h1] at hu; cases hu
  | int h1 wf => rw [h1] at hu; cases hu
  | str h1 hs hb => rw [h1] at hu; cases hu; exact ⟨_, rfl, hs⟩
  | slice h1 hr hb => rw [h1] at hu; cases hu
  | struct h1 hl hp => rw [h1] at hu; cases hu
  | array h1 hl hp => rw [h1] at hu; cases hu
theorem HasTy.bool' (hu : P.underlying t = some .bool) (h : HasTy P t row) : ∃ b, row = [.bool b] := by
  cases h with
  | bool h1 => rw [h1] at hu; cases hu; exact ⟨_, rfl⟩
  | int h1 wf => rw [h1] at hu; cases hu
  | str h1 hs hb => rw [h1] at hu; cases hu
  | slice h1 hr hb => rw [h1] at hu; cases hu
  | struct h1 hl hp => rw [h1] at hu; cases hu
  | array h1 hl hp => rw [h1] at hu; cases hu
theorem HasTy.slice' {e : TypeId} (hu : P.underlying t = some (.slice e)) (h : HasTy P t row) : ∃ rows, row = [.list rows] ∧ ∀ r ∈ rows, HasTy P e r := by
  cases h with
  | bool h1 => rw [h1] at hu; cases hu
  | int h1 wf => rw [h1] at hu; cases hu
  | str h1 hs hb => rw [h1] at hu; cases hu
  | slice h1 hr hb => rw [h1] at hu; cases hu; exact ⟨_, rfl, hr⟩
  | struct h1 hl hp => rw [h1] at hu; cases hu
  | array h1 hl hp => rw [h1] at hu; cases hu
theorem HasTy.sliceB {e : TypeId} (hu : P.underlying t = some (.slice e)) (h : HasTy P t row) : ∃ rows, row = [.list rows] ∧ (∀ r ∈ rows, HasTy P e r) ∧ rows.length * P.bytesOf e ≤ reachBytes := by
  cases h with
  | slice h1 hr hb => rw [h1] at hu; cases hu; exact ⟨_, rfl, hr, hb⟩
  | bool h1 => rw [h1] at hu; cases hu
  | int h1 wf => rw [h1] at hu; cases hu
  | str h1 hs hb => rw [h1] at hu; cases hu
  | struct h1 hl hp => rw [h1] at hu; cases hu
  | array h1 hl hp => rw [h1] at hu; cases hu
theorem HasTy.array' {n : Nat} {e : TypeId} (hu : P.underlying t = some (.array n e)) (h : HasTy P t row) : ∃ parts : List (List PV), row = parts.flatten ∧ parts.length = n ∧ ∀ r ∈ parts, HasTy P e r := by
  cases h with
  | bool h1 => rw [h1] at hu; cases hu
  | int h1 wf => rw [h1] at hu; cases hu
  | str h1 hs hb => rw [h1] at hu; cases hu
  | slice h1 hr hb => rw [h1] at hu; cases hu
  | struct h1 hl hp => rw [h1] at hu; cases hu
  | array h1 hl hp => rw [h1] at hu; cases hu; exact ⟨_, rfl, hl, hp⟩
theorem HasTy.struct' {ti : TI} {l : List (Nat × Nat × Nat × Bool)} (ht : tinfo P t = some ti) (hk : ti.kind = .struct l) (h : HasTy P t row) : ∃ parts : List (List PV), row = parts.flatten ∧ parts.length = l.length ∧
    ∀ (i : Nat) (x : Nat × Nat × Nat × Bool) (r : List PV), l[i]? = some x → parts[i]? = some r → HasTy P x.2.1 r := by
  obtain ⟨i, d, h1, h2, rfl⟩ := tinfo_some ht
  obtain ⟨fields, rfl, rfl, _⟩ := tkOf_struct hk
  cases h with
  | bool g => rw [g] at h2; cases h2
  | int g wf => rw [g] at h2; cases h2
  | str g hs hb => rw [g] at h2; cases h2
  | slice g hr hb => rw [g] at h2; cases h2
  | array g hl hp => rw [g] at h2; cases h2
  | struct g hl hp =>
    rw [g] at h2; cases h2
    refine ⟨_, rfl, by simpa using hl, fun i x r hx hr => ?_⟩
    rw [List.getElem?_map, Option.map_eq_some_iff] at hx
    obtain ⟨f, hf, rfl⟩ := hx
    exact hp i f r (by simpa using hf) hr
end
end Go.Pv
namespace Go.Pv
open Go Go.RowKit Go.ChangeShapes Go.WideShapes Go.ChangeAt
set_option linter.unusedVariables false
set_option linter.unusedSimpArgs false

def argOf (P : Program) (t : TypeId) (row : List PV) : PV := if aggOf P t then .agg row else row.headD .any
def AllTy (P : Program) : List TypeId → List (List PV) → Prop
  | [], [] => True
  | t :: ts, r :: rs => HasTy P t r ∧ AllTy P ts rs
  | _, _ => False
def argsOf (P : Program) : List TypeId → List (List PV) → List PV
  | t :: ts, r :: rs => argOf P t r :: argsOf P ts rs
  | _, _ => []

section
variable {H : Type} {enc : TypeId × Value → H} {P : Program} {S : List TypeId} {w : World} {spare : Nat → Bool} {held : Bool}

theorem arg_rel (hS : ∀ t, S.contains t = true → tyOK P S t = true) {base : Nat} {t : TypeId} {v : Value} {d : DataW H} {ps : List MemPlace} (ht : S.contains t = true)
    (hok : Value.okWide P w .any base t v) (h : DataW.Trod enc P w 0 spare held t v d ps) (hz : ∀ n ∈ DataW.weights P t d, n ≤ reachBytes) : ∃ row, HasTy P t row ∧ Rel (heapOf w) noSig (argOf P t row) v := by
  obtain ⟨fuel, h⟩ := h
  obtain ⟨row, h1, h2⟩ := trod_rel hS fuel t _ _ ht h hz
  refine ⟨row, h1, ?_⟩
  have htO := hS t ht
  have plain : aggOf P t = false → v.cells = #[v] → Rel (heapOf w) noSig (argOf P t row) v := by
    intro ha hc
    rw [hc] at h2
    obtain ⟨h3, h4⟩ := h2
    simp only [List.length_cons, List.length_nil] at h3
    obtain ⟨x, rfl⟩ := List.length_eq_one_iff.1 h3
    unfold argOf; rw [ha]
    exact h4 0 x v rfl rfl
  unfold Value.okWide at hok
  unfold tyOK at htO
  unfold aggOf at plain
  split at htO
  · rename_i hu
    rw [hu] at hok plain
    simp only [Cell.okWide, Cell.ok, hu] at hok
    cases v <;> first | exact hok.elim | exact plain rfl rfl
  · rename_i k hu
    rw [hu] at hok plain
    simp only [Cell.okWide, Cell.ok, hu] at hok
    cases v <;> first | exact hok.elim | exact plain rfl rfl
  · rename_i hu
    rw [hu] at hok plain
    simp only [Cell.okWide, Cell.ok, hu] at hok
    cases v <;> first | exact hok.elim | exact plain rfl rfl
  · rename_i e hu
    rw [hu] at hok plain
    simp only [Cell.okWide, Cell.ok, hu] at hok
    cases v <;> first | exact hok.elim | exact plain rfl rfl
  · rename_i fs hu
    rw [hu] at hok
    obtain ⟨cs, rfl, _, _⟩ := hok
    have : argOf P t row = .agg row := by unfold argOf aggOf; rw [hu]; rfl
    rw [this]
    refine .agg (by have := h2.1; simp [Value.cells] at this; omega) fun j x c hx hc => h2.2 j x c hx (by simpa [Value.cells] using hc)
  · rename_i n e hu
    rw [hu] at hok
    obtain ⟨cs, rfl, _, _⟩ := hok
    have : argOf P t row = .agg row := by unfold argOf aggOf; rw [hu]; rfl
    rw [this]
    refine .agg (by have := h2.1; simp [Value.cells] at this; omega) fun j x c hx hc => h2.2 j x c hx (by simpa [Value.cells] using hc)
  · cases htO

theorem args_rel (hS : ∀ t, S.contains t = true → tyOK P S t = true) {base : Nat} : ∀ (ts : List TypeId) (vs : List Value) (ds : List (DataW H)) (ps : List MemPlace), (ts.all fun t => S.contains t) = true →
    (∀ (j : Nat) t v, ts[j]? = some t → vs[j]? = some v → Value.okWide P w .any base t v) → DataW.TrodAll enc P w 0 spare held ts vs ds ps → (∀ n ∈ DataW.weightsEach P ts ds, n ≤ reachBytes) →
    ∃ rows, AllTy P ts rows ∧ RowRel (heapOf w) (argsOf P ts rows) vs ∧ ds.length = ts.length := by
  intro ts
  induction ts with
  | nil =>
    intro vs ds ps _ _ h _
    cases vs <;> cases ds <;> first | exact h.elim | skip
    exact ⟨[], trivial, .nil, rfl⟩
  | cons t ts ih =>
    intro vs ds ps hin hok h hz
    cases vs with
    | nil => exact h.elim
    | cons v vs =>
      cases ds with
      | nil => exact h.elim
      | cons d ds =>
        obtain ⟨p, q, h1, h2, _⟩ := h
        simp only [List.all_cons, Bool.and_eq_true] at hin
        simp only [DataW.weightsEach, List.mem_append] at hz
        obtain ⟨row, g1, g2⟩ := arg_rel hS hin.1 (hok 0 t v rfl rfl) h1 fun n hn => hz n (.inl hn)
        obtain ⟨rows, g3, g4, g5⟩ := ih vs ds q hin.2 (fun j t v a b => hok (j + 1) t v (by simpa using a) (by simpa using b)) h2 fun n hn => hz n (.inr hn)
        refine ⟨row :: rows, ⟨g1, g3⟩, ?_, by simp [g5]⟩
        exact (RowRel.one g2).append g4

theorem args_again {W W' : World} (hl : laidOutB P = true) : ∀ (ts : List TypeId) (vs : List Value) (ds : List (DataW H)) (ps : List MemPlace), (ts.all fun t => P.readableRec t && decide (t < P.types.size)) = true →
    DataW.TrodAll enc P W 0 (fun _ => true) true ts vs ds ps → Below W.heap.size W W' → (∀ x ∈ ps, x.block < W.heap.size) → DataW.TrodAll enc P W' 0 (fun b => decide (b < W.heap.size)) true ts vs ds ps := by
  intro ts
  induction ts with
  | nil => intro vs ds ps _ h _ _; cases vs <;> cases ds <;> first | exact h.elim | exact h
  | cons t ts ih =>
    intro vs ds ps hin h hb hlt
    cases vs with
    | nil => exact h.elim
    | cons v vs =>
      cases ds with
      | nil => exact h.elim
      | cons d ds =>
        obtain ⟨p, q, h1, h2, rfl⟩ := h
        simp only [List.all_cons, Bool.and_eq_true, decide_eq_true_eq] at hin
        exact ⟨p, q, Below.trod hl hin.1.1 hin.1.2 h1 hb (fun x hx => hlt x (by simp [hx])), ih vs ds q hin.2 h2 hb (fun x hx => hlt x (by simp [hx])), rfl⟩

theorem SR.below {pub pub' : PHeap} {σ' : Sig} {s' : Store} {w' : World} (h : SR ⟨w, pub, noSig, dom [] noSig⟩ pub' σ' s' w') : Below w.heap.size w w' :=
  ⟨h.os, h.tape, h.output, h.size, fun k hk => (h.frame k hk (dom_nil _ _)).1⟩

theorem law_contract {f : FuncId} {fn : Func} {s : ChangeSpec} {tb : TypeId} (S : List TypeId) (hS : (S.all fun t => tyOK P S t) = true) (hl : laidOutB P = true)
    (hp1 : (fn.params.toList.all fun t => S.contains t) = true) (hp2 : (fn.params.toList.all fun t => P.readableRec t && decide (t < P.types.size)) = true)
    (hv : s.vars = []) (hr : fn.resultTypes = #[tb]) (hb : P.underlying tb = some .bool)
    (hs : ∀ ds : List (DataW H), ds.length = fn.params.toList.length → s.fn H ds = { results := [.lit (.bool true)], args := ds })
    (h : ∀ rows : List (List PV), AllTy P fn.params.toList rows → CallOK P f (argsOf P fn.params.toList rows) [] (.bool true) [])
    (W : World) (base : Nat) (args : Array Value) (ds gs : List (DataW H)) (before : List MemPlace) (hval : ∀ (j : Nat) t v, fn.params[j]? = some t → args[j]? = some v → Value.okWide P W .any base t v)
    (hW : DataW.Whole enc P fn.params.toList s.vars false W args.toList ds gs before)
    (hz : (DataW.weightsEach P (fn.params.toList ++ s.plain.varTypes P) (ds ++ gs)).all (· ≤ reachBytes) = true) :
    Calls P f args W fun e W' => ∃ v, e = .returned v ∧ s.post enc P fn false true false false W args v W' := by
  have hW' := hW
  obtain ⟨p, q, hA, hV, rfl, hfz, hnd⟩ := hW
  rw [hv] at hV
  have hgq : gs = [] ∧ q = [] := by cases gs <;> first | exact ⟨rfl, hV⟩ | exact hV.elim
  obtain ⟨rfl, rfl⟩ := hgq
  have hS' : ∀ t, S.contains t = true → tyOK P S t = true := fun t ht => List.all_eq_true.1 hS t (by simpa using ht)
  have hzz : ∀ n ∈ DataW.weightsEach P fn.params.toList ds, n ≤ reachBytes := by
    intro n hn
    have hvt : s.plain.varTypes P = [] := by simp [DataSpec.varTypes, ChangeSpec.plain, hv]
    rw [hvt, List.append_nil, List.append_nil] at hz
    simpa using List.all_eq_true.1 hz n hn
  obtain ⟨rows, h1, h2, h3⟩ := args_rel hS' fn.params.toList args.toList ds p hp1 (fun j t v a b => hval j t v (by simpa using a) (by simpa using b)) hA hzz
  refine Calls.mono (h rows h1 (heapOf W) noSig W args (.bare fun b o hb => hb) ⟨by have := h2.1; simpa using this.symm, fun j v c hv hc => h2.2 j v c hv (by simpa using hc)⟩) ?_
  rintro e W' ⟨cv, pub', σ', rfl, hs', hrel⟩
  obtain rfl := rel_bool hrel
  have hbel := hs'.below
  refine ⟨_, rfl, ds, [], _, [], p, [], hW', ?_, ?_, ?_, hbel.frame _, fun h => by cases h⟩
  · rw [List.append_nil, hs ds h3, hr]
    exact trodAll_cons_mk (shut_bool hb _) trodAll_mk0
  · rw [List.append_nil, hs ds h3]
    exact args_again hl _ _ _ _ hp2 hA hbel (fun x hx => hW'.lt x (by simpa using hx))
  · rw [List.append_nil, hs ds h3, hv]; rfl
end

section
variable {P : Program} {t : TypeId} {ti : TI}
theorem fields_of {l : List (Nat × Nat × Nat × Bool)} (ht : tinfo P t = some ti) (hk : ti.kind = .struct l) : ∃ fs : Array Field, P.underlying t = some (.struct fs) ∧ fs.toList.map (·.type) = l.map (·.2.1) := by
  obtain ⟨i, d, h1, h2, rfl⟩ := tinfo_some ht
  obtain ⟨fields, rfl, rfl, _⟩ := tkOf_struct hk
  exact ⟨fields, h2, by simp⟩
theorem und_slice {e esz by' : Nat} {ag : Bool} {z : Option (List PV)} (ht : tinfo P t = some ti) (hk : ti.kind = .slice e esz by' ag z) : P.underlying t = some (.slice e) := by
  obtain ⟨i, d, h1, h2, rfl⟩ := tinfo_some ht
  obtain ⟨rfl, _⟩ := tkOf_slice hk; exact h2
theorem und_array {n e esz : Nat} {ag : Bool} (ht : tinfo P t = some ti) (hk : ti.kind = .array n e esz ag) : P.underlying t = some (.array n e) := by
  obtain ⟨i, d, h1, h2, rfl⟩ := tinfo_some ht
  obtain ⟨rfl, _⟩ := tkOf_array hk; exact h2
theorem und_int {k : IntKind} (ht : tinfo P t = some ti) (hk : ti.kind = .int k) : P.underlying t = some (.int k) := by
  obtain ⟨i, d, h1, h2, rfl⟩ := tinfo_some ht
  obtain rfl := tkOf_int hk; exact h2
theorem und_bool (ht : tinfo P t = some ti) (hk : ti.kind = .bool) : P.underlying t = some .bool := by
  obtain ⟨i, d, h1, h2, rfl⟩ := tinfo_some ht
  obtain rfl := tkOf_bool hk; exact h2
theorem und_string (ht : tinfo P t = some ti) (hk : ti.kind = .string) : P.underlying t = some .string := by
  obtain ⟨i, d, h1, h2, rfl⟩ := tinfo_some ht
  obtain rfl := tkOf_string hk; exact h2
end
theorem list_of {α : Type} (g : α → List PV) : ∀ (rows : List (List PV)), (∀ row ∈ rows, ∃ x, row = g x) → ∃ l : List α, rows = l.map g := by
  intro rows
  induction rows with
  | nil => intro _; exact ⟨[], rfl⟩
  | cons r rs ih =>
    intro h
    obtain ⟨x, rfl⟩ := h r (by simp)
    obtain ⟨l, rfl⟩ := ih fun row hr => h row (by simp [hr])
    exact ⟨x :: l, rfl⟩
theorem three_of {α : Type} (l : List α) (h : l.length = 3) : ∃ a b c, l = [a, b, c] := by
  match l, h with
  | [a, b, c], _ => exact ⟨a, b, c, rfl⟩
theorem two_of {α : Type} (l : List α) (h : l.length = 2) : ∃ a b, l = [a, b] := by
  match l, h with
  | [a, b], _ => exact ⟨a, b, rfl⟩
theorem argOf_agg {P : Program} {t : TypeId} {ti : TI} {row : List PV} (ht : tinfo P t = some ti) (ha : ti.agg = true) : argOf P t row = .agg row := by
  obtain ⟨i, d, h1, h2, rfl⟩ := tinfo_some ht
  unfold argOf; rw [if_pos ha]
theorem argOf_one {P : Program} {t : TypeId} {ti : TI} {v : PV} (ht : tinfo P t = some ti) (ha : ti.agg = false) : argOf P t [v] = v := by
  obtain ⟨i, d, h1, h2, rfl⟩ := tinfo_some ht
  have ha' : aggOf P t = false := ha
  unfold argOf; rw [ha']; rfl
theorem allTy_cons {P : Program} {t : TypeId} {ts : List TypeId} {rows : List (List PV)} (h : AllTy P (t :: ts) rows) : ∃ r rs, rows = r :: rs ∧ HasTy P t r ∧ AllTy P ts rs := by
  cases rows with
  | nil => exact h.elim
  | cons r rs => exact ⟨r, rs, rfl, h.1, h.2⟩
theorem allTy_nil {P : Program} {rows : List (List PV)} (h : AllTy P [] rows) : rows = [] := by
  cases rows with
  | nil => rfl
  | cons r rs => exact h.elim
end Go.Pv
namespace Go.Proofs.Ytnoklmapofogeaa
open Go Go.Pv
set_option linter.unusedVariables false
set_option linter.unusedSimpArgs false

theorem int_of {row : List PV} (h : HasTy Try.prog 3 row) : ∃ n, row = [.int .i64 n] ∧ -9223372036854775808 ≤ n ∧ n ≤ 9223372036854775807 := by
  obtain ⟨n, rfl, hw⟩ := h.int' (und_int ty3 rfl)
  exact ⟨n, rfl, bounds_i64 hw⟩
theorem str_of {row : List PV} (h : HasTy Try.prog 9 row) : ∃ s, row = [.str s] := by
  obtain ⟨s, rfl, _⟩ := h.str' (und_string ty9 rfl)
  exact ⟨s, rfl⟩

theorem fm_aux {t : TypeId} {row : List PV} (h : HasTy Try.prog t row) : (t = 24 → ∃ f, row = frm f) ∧ (t = 22 → ∃ l : List Fm, row = [.list (l.map frm)]) := by
  have hs := fields_of ty24 rfl
  have hl := und_slice ty22 rfl
  obtain ⟨fs, hs, hf⟩ := hs
  induction h with
  | bool g => refine ⟨?_, ?_⟩ <;> rintro rfl <;> first | (rw [g] at hs; cases hs; done) | (rw [g] at hl; cases hl; done)
  | int g => refine ⟨?_, ?_⟩ <;> rintro rfl <;> first | (rw [g] at hs; cases hs; done) | (rw [g] at hl; cases hl; done)
  | str g => refine ⟨?_, ?_⟩ <;> rintro rfl <;> first | (rw [g] at hs; cases hs; done) | (rw [g] at hl; cases hl; done)
  | array g => refine ⟨?_, ?_⟩ <;> rintro rfl <;> first | (rw [g] at hs; cases hs; done) | (rw [g] at hl; cases hl; done)
  | slice g hr hb ih =>
    refine ⟨?_, ?_⟩
    · rintro rfl; rw [g] at hs; cases hs
    · rintro rfl; rw [g] at hl; cases hl
      obtain ⟨l, rfl⟩ := list_of frm _ fun row hrow => (ih row hrow).1 rfl
      exact ⟨l, rfl⟩
  | struct g hlen hp ih =>
    refine ⟨?_, ?_⟩
    · rintro rfl; rw [g] at hs; cases hs
      have h3 : fs.toList.length = 3 := by simpa using congrArg List.length hf
      obtain ⟨a, b, c, hfs⟩ := three_of _ h3
      rw [hfs] at hf
      simp only [List.map_cons, List.map_nil, List.cons.injEq, and_true] at hf
      obtain ⟨ha, hb, hc⟩ := hf
      have hg : ∀ i, fs[i]? = [a, b, c][i]? := fun i => by rw [← hfs, Array.getElem?_toList]
      obtain ⟨r0, r1, r2, rfl⟩ := three_of _ (hlen.trans (by simpa using h3))
      obtain ⟨n, rfl, _⟩ := int_of (by have := hp 0 a r0 (by rw [hg]; rfl) rfl; rw [ha] at this; exact this)
      obtain ⟨s, rfl⟩ := str_of (by have := hp 1 b r1 (by rw [hg]; rfl) rfl; rw [hb] at this; exact this)
      obtain ⟨l, rfl⟩ := (ih 2 c r2 (by rw [hg]; rfl) rfl).2 hc
      exact ⟨.mk n s l, by rw [frm_eq]; rfl⟩
    · rintro rfl; rw [g] at hl; cases hl
theorem fm_of {row : List PV} (h : HasTy Try.prog 24 row) : ∃ f, row = frm f := (fm_aux h).1 rfl

theorem bool_of {row : List PV} (h : HasTy Try.prog 4 row) : ∃ b, row = [.bool b] := by
  obtain ⟨b, rfl⟩ := h.bool' (und_bool ty4 rfl)
  exact ⟨b, rfl⟩
theorem strsB_of {row : List PV} (h : HasTy Try.prog 35 row) : ∃ l : List ByteArray, row = [.list (l.map strRow)] ∧ l.length * 16 ≤ 140737488351232 := by
  obtain ⟨rs, rfl, g2, hb⟩ := h.sliceB (und_slice ty35 rfl)
  rw [show Try.prog.bytesOf 9 = 16 by kernel_rfl] at hb
  obtain ⟨l, rfl⟩ := list_of strRow rs fun r hr => str_of (g2 r hr)
  exact ⟨l, rfl, by simpa [reachBytes] using hb⟩
end Go.Proofs.Ytnoklmapofogeaa
namespace Go.Proofs.Ytnoklmapofogeaa
open Go Go.Pv
set_option linter.unusedVariables false
set_option linter.unusedSimpArgs false

theorem fms_of {row : List PV} (h : HasTy Try.prog 22 row) : ∃ l : List Fm, row = [.list (l.map frm)] := (fm_aux h).2 rfl
theorem seq_of {row : List PV} (h : HasTy Try.prog 26 row) : ∃ l r : List Fm, row = [.list (l.map frm), .list (r.map frm)] := by
  obtain ⟨parts, rfl, h1, h2⟩ := h.struct' ty26 rfl
  obtain ⟨r0, r1, rfl⟩ := two_of _ h1
  obtain ⟨l, rfl⟩ := fms_of (h2 0 _ r0 rfl rfl)
  obtain ⟨r, rfl⟩ := fms_of (h2 1 _ r1 rfl rfl)
  exact ⟨l, r, rfl⟩
theorem four_of {α : Type} (l : List α) (h : l.length = 4) : ∃ a b c d, l = [a, b, c, d] := by
  match l, h with
  | [a, b, c, d], _ => exact ⟨a, b, c, d, rfl⟩
theorem pf_aux {t : TypeId} {row : List PV} (h : HasTy Try.prog t row) : (t = 29 → ∃ p, row = prf p) ∧ (t = 27 → ∃ l : List Pf, row = [.list (l.map prf)]) := by
  have hs := fields_of ty29 rfl
  have hl := und_slice ty27 rfl
  obtain ⟨fs, hs, hf⟩ := hs
  induction h with
  | bool g => refine ⟨?_, ?_⟩ <;> rintro rfl <;> first | (rw [g] at hs; cases hs; done) | (rw [g] at hl; cases hl; done)
  | int g => refine ⟨?_, ?_⟩ <;> rintro rfl <;> first | (rw [g] at hs; cases hs; done) | (rw [g] at hl; cases hl; done)
  | str g => refine ⟨?_, ?_⟩ <;> rintro rfl <;> first | (rw [g] at hs; cases hs; done) | (rw [g] at hl; cases hl; done)
  | array g => refine ⟨?_, ?_⟩ <;> rintro rfl <;> first | (rw [g] at hs; cases hs; done) | (rw [g] at hl; cases hl; done)
  | slice g hr hb ih =>
    refine ⟨?_, ?_⟩
    · rintro rfl; rw [g] at hs; cases hs
    · rintro rfl; rw [g] at hl; cases hl
      obtain ⟨l, rfl⟩ := list_of prf _ fun row hrow => (ih row hrow).1 rfl
      exact ⟨l, rfl⟩
  | struct g hlen hp ih =>
    refine ⟨?_, ?_⟩
    · rintro rfl; rw [g] at hs; cases hs
      have h4 : fs.toList.length = 4 := by simpa using congrArg List.length hf
      obtain ⟨a, b, c, d, hfs⟩ := four_of _ h4
      rw [hfs] at hf
      simp only [List.map_cons, List.map_nil, List.cons.injEq, and_true] at hf
      obtain ⟨ha, hb, hc, hd⟩ := hf
      have hg : ∀ i, fs[i]? = [a, b, c, d][i]? := fun i => by rw [← hfs, Array.getElem?_toList]
      obtain ⟨r0, r1, r2, r3, rfl⟩ := four_of _ (hlen.trans (by simpa using h4))
      obtain ⟨s, rfl⟩ := str_of (by have := hp 0 a r0 (by rw [hg]; rfl) rfl; rw [ha] at this; exact this)
      obtain ⟨f, rfl⟩ := fm_of (by have := hp 1 b r1 (by rw [hg]; rfl) rfl; rw [hb] at this; exact this)
      obtain ⟨l, r, rfl⟩ := seq_of (by have := hp 2 c r2 (by rw [hg]; rfl) rfl; rw [hc] at this; exact this)
      obtain ⟨ks, rfl⟩ := (ih 3 d r3 (by rw [hg]; rfl) rfl).2 hd
      exact ⟨.mk s f l r ks, by rw [prf_eq, frm_eq]; rfl⟩
    · rintro rfl; rw [g] at hl; cases hl
theorem pf_of {row : List PV} (h : HasTy Try.prog 29 row) : ∃ p, row = prf p := (pf_aux h).1 rfl
end Go.Proofs.Ytnoklmapofogeaa
namespace Go.Proofs.Ytnoklmapofogeaa
open Go Go.Pv
set_option linter.unusedVariables false
set_option linter.unusedSimpArgs false
set_option maxRecDepth 100000
set_option maxHeartbeats 4000000

def andsL (l : List Fm) : Fm := l.foldl (fun a f => .mk 5 ⟨#[]⟩ [a, f]) (.mk 2 ⟨#[]⟩ [])
def orsL (l : List Fm) : Fm := l.foldl (fun a f => .mk 6 ⟨#[]⟩ [a, f]) (.mk 3 ⟨#[]⟩ [])
def asF (l r : List Fm) : Fm := .mk 7 ⟨#[]⟩ [andsL l, orsL r]
theorem andsL_take {l : List Fm} {i : Nat} (h : i < l.length) : andsL (l.take (i + 1)) = .mk 5 ⟨#[]⟩ [andsL (l.take i), l[i]] := by
  unfold andsL; rw [List.take_succ_eq_append_getElem h, List.foldl_append]; rfl
theorem orsL_take {l : List Fm} {i : Nat} (h : i < l.length) : orsL (l.take (i + 1)) = .mk 6 ⟨#[]⟩ [orsL (l.take i), l[i]] := by
  unfold orsL; rw [List.take_succ_eq_append_getElem h, List.foldl_append]; rfl
def x18_T3 : XC := .seq (.reg [⟨some 39,.load 24 (.tmp 3),none⟩,⟨some 40,.load 24 (.tmp 5),none⟩,⟨some 41,.buildSlice 22 2 #[(0,.tmp 39),(1,.tmp 40)],none⟩,⟨some 42,.build 24 #[(0,.const (.int .i64 7)),(2,.tmp 41)],none⟩,⟨none,.store 24 (.tmp 2) (.tmp 42),none⟩]) (.ret)
def x18_L2 : XC := .seq (.seq (.reg [⟨some 24,.move (.tmp 6),none⟩,⟨some 25,.fieldAddr 26 (.tmp 1) 1,none⟩,⟨some 26,.load 22 (.tmp 25),none⟩,⟨some 27,.call ⟨.builtin .len,#[.tmp 26],#[22]⟩,none⟩,⟨some 28,.binOp .lss 3 (.tmp 24) (.tmp 27) 3,none⟩]) (.cond (.tmp 28) (.skip) (.exit 2))) (.seq (.block 3 (.drawn 10 [⟨some 31,.load 24 (.tmp 5),none⟩,⟨some 32,.fieldAddr 26 (.tmp 1) 1,none⟩,⟨some 33,.load 22 (.tmp 32),none⟩,⟨some 34,.move (.tmp 6),none⟩,⟨some 35,.indexAddr 22 (.tmp 33) (.tmp 34),none⟩,⟨some 36,.load 24 (.tmp 35),none⟩,⟨some 37,.buildSlice 22 2 #[(0,.tmp 31),(1,.tmp 36)],none⟩,⟨some 38,.build 24 #[(0,.const (.int .i64 6)),(2,.tmp 37)],none⟩,⟨none,.store 24 (.tmp 5) (.tmp 38),none⟩])) (.reg [⟨some 29,.move (.tmp 6),none⟩,⟨some 30,.binOp .add 3 (.tmp 29) (.const (.int .i64 1)) 3,none⟩,⟨some 6,.assign (.tmp 30),none⟩]))
def x18_T1 : XC := .seq (.reg [⟨some 23,.build 24 #[(0,.const (.int .i64 3))],none⟩,⟨some 5,.alloc 24,none⟩,⟨none,.store 24 (.tmp 5) (.tmp 23),none⟩]) (.seq (.seq (.reg [⟨some 6,.assign (.const (.int .i64 0)),none⟩]) (.bloop 2 x18_L2)) (x18_T3))
def x18_L0 : XC := .seq (.seq (.reg [⟨some 8,.move (.tmp 4),none⟩,⟨some 9,.fieldAddr 26 (.tmp 1) 0,none⟩,⟨some 10,.load 22 (.tmp 9),none⟩,⟨some 11,.call ⟨.builtin .len,#[.tmp 10],#[22]⟩,none⟩,⟨some 12,.binOp .lss 3 (.tmp 8) (.tmp 11) 3,none⟩]) (.cond (.tmp 12) (.skip) (.exit 0))) (.seq (.block 1 (.drawn 5 [⟨some 15,.load 24 (.tmp 3),none⟩,⟨some 16,.fieldAddr 26 (.tmp 1) 0,none⟩,⟨some 17,.load 22 (.tmp 16),none⟩,⟨some 18,.move (.tmp 4),none⟩,⟨some 19,.indexAddr 22 (.tmp 17) (.tmp 18),none⟩,⟨some 20,.load 24 (.tmp 19),none⟩,⟨some 21,.buildSlice 22 2 #[(0,.tmp 15),(1,.tmp 20)],none⟩,⟨some 22,.build 24 #[(0,.const (.int .i64 5)),(2,.tmp 21)],none⟩,⟨none,.store 24 (.tmp 3) (.tmp 22),none⟩])) (.reg [⟨some 13,.move (.tmp 4),none⟩,⟨some 14,.binOp .add 3 (.tmp 13) (.const (.int .i64 1)) 3,none⟩,⟨some 4,.assign (.tmp 14),none⟩]))
def x18 : XC := .seq (.reg [⟨some 1,.box 26 (.tmp 0),none⟩,⟨some 2,.alloc 24,none⟩]) (.seq (.reg [⟨some 7,.build 24 #[(0,.const (.int .i64 2))],none⟩,⟨some 3,.alloc 24,none⟩,⟨none,.store 24 (.tmp 3) (.tmp 7),none⟩]) (.seq (.seq (.reg [⟨some 4,.assign (.const (.int .i64 0)),none⟩]) (.bloop 0 x18_L0)) (x18_T1)))
@[simp] theorem x18_s {C : WC} {e : AE} {s : Store} {K : KS} : type_of% (@X_at C e s K _ _ x18_T3.eq_1) ∧ type_of% (@X_at C e s K _ _ x18_L2.eq_1) ∧ type_of% (@X_at C e s K _ _ x18_T1.eq_1) ∧ type_of% (@X_at C e s K _ _ x18_L0.eq_1) ∧ type_of% (@X_at C e s K _ _ x18.eq_1) := ⟨X_at x18_T3.eq_1, X_at x18_L2.eq_1, X_at x18_T1.eq_1, X_at x18_L0.eq_1, X_at x18.eq_1⟩
def an18 : Ann := ⟨[(5, .mix 6), (10, .mix 6)], [(2, [(5, some 2, 3), (5, some 5003, 0)], [1, 2, 3, 5, 6], [2, 3, 5]), (0, [(3, some 2, 3), (3, some 5003, 0)], [1, 2, 3, 4], [1, 2, 3])], []⟩
def cx18 (P : Program) (m : Nat) : WC := ⟨P, m, an18⟩
@[simp] theorem cx18_a {P : Program} {m : Nat} : (cx18 P m).P = P ∧ (cx18 P m).m = m ∧ (cx18 P m).A.clsOf 5 = .mix 6 ∧ (cx18 P m).A.clsOf 10 = .mix 6 ∧ (cx18 P m).A.frzOf 5 = [] ∧ (cx18 P m).A.frzOf 10 = [] ∧ (cx18 P m).A.loopOf 2 = ([(5, some 2, 3), (5, some 5003, 0)], [1, 2, 3, 5, 6], [2, 3, 5]) ∧ (cx18 P m).A.loopOf 0 = ([(3, some 2, 3), (3, some 5003, 0)], [1, 2, 3, 4], [1, 2, 3]) := ⟨rfl, rfl, rfl, rfl, rfl, rfl, rfl, rfl⟩
instance {P : Program} {m f : Nat} [h : EnT P f] : EnT (cx18 P m).P f := h
theorem chk18 : ∀ c, Try.f18.body = some c → chkC Try.f18.ntmps an18 c = true := by intro c h; obtain rfl := Option.some.inj h; decide +kernel
theorem op18 {args : List PV} {v : PV} (h : X (cx18 Try.prog 0) x18 (argsA 0 args) [] (.fin [.cell 2 24] fun v1 s1 => deref s1 6 v1 = v)) (hl : args.length ≤ Try.f18.ntmps := by rw [Try.ntmps18]; simp) : CallOK Try.prog 18 args [] v [] :=
  callX (m := 0) (cx18 Try.prog 0) x18 rfl rfl (by kernel_rfl) Try.func18 rfl rfl hl mixed (chk18 _ rfl) (by rw [Try.results18]; exact h)

theorem As_ref (l r : List Fm) : CallOK Try.prog 18 [.agg [.list (l.map frm), .list (r.map frm)]] [] (.agg (frm (asF l r))) [] := by
  refine op18 ?_
  rw [frm_eq (asF l r)]
  unfold asF
  (((try simp (implicitDefEqProofs := false)); (try simp (implicitDefEqProofs := false) (disch := first | assumption | (try simp only [lens]); omega -splitDisjunctions))); all_goals try (repeat' ((first | ((with_reducible first | refine And.intro ?_ ?_ | refine Exists.intro ?_ ?_); first | omega | (simp <;> omega)) | (with_reducible refine spl (And.intro ?_ ?_) <;> intro _)) <;> ((try simp (implicitDefEqProofs := false)); (try simp (implicitDefEqProofs := false) (disch := first | assumption | (try simp only [lens]); omega -splitDisjunctions))))))
  refine W_of fun Q hQ => ?_
  have main : ∀ n i, i + n = l.length → Q [(1, .ptr 0 0 0), (2, .ptr 1 0 0), (3, .ptr 2 0 0), (4, .int .i64 (i : Int))] [.rows 2 [[.list (l.map frm), .list (r.map frm)]], .rows 3 [[.int .i64 0, .str ⟨#[]⟩, .nilsl]], .rows 3 [frm (andsL (l.take i))]] := by
    intro n
    induction n with
    | zero =>
      intro i hi
      obtain rfl : i = l.length := by omega
      rw [List.take_length]
      generalize andsL l = A at *
      apply hQ
      clear hQ
      (((try simp (implicitDefEqProofs := false)); (try simp (implicitDefEqProofs := false) (disch := first | assumption | (try simp only [lens]); omega -splitDisjunctions))); all_goals try (repeat' ((first | ((with_reducible first | refine And.intro ?_ ?_ | refine Exists.intro ?_ ?_); first | omega | (simp <;> omega)) | (with_reducible refine spl (And.intro ?_ ?_) <;> intro _)) <;> ((try simp (implicitDefEqProofs := false)); (try simp (implicitDefEqProofs := false) (disch := first | assumption | (try simp only [lens]); omega -splitDisjunctions))))))
      refine W_of fun Q hQ => ?_
      have main2 : ∀ n i, i + n = r.length → Q [(1, .ptr 0 0 0), (2, .ptr 1 0 0), (3, .ptr 2 0 0), (5, .ptr 3 0 0), (6, .int .i64 (i : Int))] [.rows 2 [[.list (l.map frm), .list (r.map frm)]], .rows 3 [[.int .i64 0, .str ⟨#[]⟩, .nilsl]], .rows 3 [frm A], .rows 3 [frm (orsL (r.take i))]] := by
        intro n
        induction n with
        | zero =>
          intro i hi
          obtain rfl : i = r.length := by omega
          rw [List.take_length]
          generalize orsL r = B at *
          apply hQ
          clear hQ
          (((try simp (implicitDefEqProofs := false)); (try simp (implicitDefEqProofs := false) (disch := first | assumption | (try simp only [lens]); omega -splitDisjunctions))); all_goals try (repeat' ((first | ((with_reducible first | refine And.intro ?_ ?_ | refine Exists.intro ?_ ?_); first | omega | (simp <;> omega)) | (with_reducible refine spl (And.intro ?_ ?_) <;> intro _)) <;> ((try simp (implicitDefEqProofs := false)); (try simp (implicitDefEqProofs := false) (disch := first | assumption | (try simp only [lens]); omega -splitDisjunctions))))))
        | succ n ih =>
          intro i hi
          have hil : i < r.length := by omega
          have ih := ih (i + 1) (by omega)
          rw [orsL_take hil] at ih
          generalize orsL (r.take i) = B at *
          apply hQ
          clear hQ
          rw [frm_eq (Fm.mk _ _ _)] at ih
          (((try simp (implicitDefEqProofs := false) [hil]); (try simp (implicitDefEqProofs := false) (disch := first | assumption | (try simp only [lens]); omega -splitDisjunctions) [hil])); all_goals try (repeat' ((first | ((with_reducible first | refine And.intro ?_ ?_ | refine Exists.intro ?_ ?_); first | omega | (simp <;> omega)) | (with_reducible refine spl (And.intro ?_ ?_) <;> intro _)) <;> ((try simp (implicitDefEqProofs := false) [hil]); (try simp (implicitDefEqProofs := false) (disch := first | assumption | (try simp only [lens]); omega -splitDisjunctions) [hil])))))
          all_goals first | exact ih | (refine at2 ih ?_ ?_ <;> simp; done) | (exfalso; first | omega | (simp_all; done) | (simp_all; omega))
      all_goals first | exact main2 _ 0 (Nat.zero_add _) | (refine at2 main2 _ 0 (Nat.zero_add _) ?_ ?_ <;> simp; done) | (exfalso; first | omega | (simp_all; done) | (simp_all; omega))
    | succ n ih =>
      intro i hi
      have hil : i < l.length := by omega
      have ih := ih (i + 1) (by omega)
      rw [andsL_take hil] at ih
      generalize andsL (l.take i) = A at *
      apply hQ
      clear hQ
      rw [frm_eq (Fm.mk _ _ _)] at ih
      (((try simp (implicitDefEqProofs := false) [hil]); (try simp (implicitDefEqProofs := false) (disch := first | assumption | (try simp only [lens]); omega -splitDisjunctions) [hil])); all_goals try (repeat' ((first | ((with_reducible first | refine And.intro ?_ ?_ | refine Exists.intro ?_ ?_); first | omega | (simp <;> omega)) | (with_reducible refine spl (And.intro ?_ ?_) <;> intro _)) <;> ((try simp (implicitDefEqProofs := false) [hil]); (try simp (implicitDefEqProofs := false) (disch := first | assumption | (try simp only [lens]); omega -splitDisjunctions) [hil])))))
      all_goals first | exact ih | (refine at2 ih ?_ ?_ <;> simp; done) | (exfalso; first | omega | (simp_all; done) | (simp_all; omega))
  all_goals first | exact main _ 0 (Nat.zero_add _) | (refine at2 main _ 0 (Nat.zero_add _) ?_ ?_ <;> simp; done) | (exfalso; first | omega | (simp_all; done) | (simp_all; omega))
theorem shl_two (i : Nat) (hi : i ≤ 20) : shlI .i64 1 (i : Int) = ((2 ^ i : Nat) : Int) := by
  have h0 : shlI .i64 1 (i : Int) = IntKind.i64.wrap (1 * 2 ^ (min i 64)) := rfl
  have h : 2 ^ i ≤ 2 ^ 20 := Nat.pow_le_pow_right (by decide) hi
  rw [h0, Nat.min_eq_left (by omega), Int.one_mul, show ((2 : Int) ^ i) = ((2 ^ i : Nat) : Int) by simp]
  generalize 2 ^ i = x at h ⊢
  rw [wrap64 (by omega) (by omega)]
def tautB (f : Fm) (ns : List ByteArray) : Bool := (List.range (2 ^ ns.length)).all fun k => tv (fun x => memB x (rowL ns k)) f
theorem range_drop_cons {n i : Nat} (h : i < n) : (List.range n).drop i = i :: (List.range n).drop (i + 1) := by
  rw [List.drop_eq_getElem_cons (by simpa using h), List.getElem_range]
def x63_L0 : XC := .seq (.seq (.reg [⟨some 8,.move (.tmp 4),none⟩,⟨some 9,.move (.tmp 3),none⟩,⟨some 10,.call ⟨.builtin .len,#[.tmp 9],#[35]⟩,none⟩,⟨some 11,.binOp .shl 3 (.const (.int .i64 1)) (.tmp 10) 3,none⟩,⟨some 12,.binOp .lss 3 (.tmp 8) (.tmp 11) 3,none⟩]) (.cond (.tmp 12) (.skip) (.exit 0))) (.seq (.block 1 (.seq (.drawn 5 [⟨some 15,.load 24 (.tmp 1),none⟩,⟨some 16,.move (.tmp 3),none⟩,⟨some 17,.move (.tmp 4),none⟩,⟨some 18,.call ⟨.value (.func 43),#[.tmp 16,.tmp 17],#[35,3]⟩,none⟩,⟨some 19,.call ⟨.value (.func 44),#[.tmp 15,.tmp 18],#[24,35]⟩,none⟩,⟨some 20,.unOp .not 4 (.tmp 19),none⟩]) (.cond (.tmp 20) (.seq (.reg [⟨some 2,.assign (.const (.bool false)),none⟩]) (.ret)) (.skip)))) (.reg [⟨some 13,.move (.tmp 4),none⟩,⟨some 14,.binOp .add 3 (.tmp 13) (.const (.int .i64 1)) 3,none⟩,⟨some 4,.assign (.tmp 14),none⟩]))
def x63 : XC := .seq (.reg [⟨some 1,.box 24 (.tmp 0),none⟩,⟨some 2,.assign (.const (.bool false)),none⟩]) (.seq (.reg [⟨some 5,.load 24 (.tmp 1),none⟩,⟨some 6,.buildSlice 22 1 #[(0,.tmp 5)],none⟩,⟨some 7,.call ⟨.value (.func 17),#[.tmp 6],#[22]⟩,none⟩,⟨some 3,.assign (.tmp 7),none⟩]) (.seq (.seq (.reg [⟨some 4,.assign (.const (.int .i64 0)),none⟩]) (.bloop 0 x63_L0)) (.seq (.reg [⟨some 2,.assign (.const (.bool true)),none⟩]) (.ret))))
@[simp] theorem x63_s {C : WC} {e : AE} {s : Store} {K : KS} : type_of% (@X_at C e s K _ _ x63_L0.eq_1) ∧ type_of% (@X_at C e s K _ _ x63.eq_1) := ⟨X_at x63_L0.eq_1, X_at x63.eq_1⟩
def an63 : Ann := ⟨[(5, .mix 4)], [(0, [], [1, 3, 4], [2])], []⟩
def cx63 (P : Program) (m : Nat) : WC := ⟨P, m, an63⟩
@[simp] theorem cx63_a {P : Program} {m : Nat} : (cx63 P m).P = P ∧ (cx63 P m).m = m ∧ (cx63 P m).A.clsOf 5 = .mix 4 ∧ (cx63 P m).A.frzOf 5 = [] ∧ (cx63 P m).A.loopOf 0 = ([], [1, 3, 4], [2]) := ⟨rfl, rfl, rfl, rfl, rfl⟩
instance {P : Program} {m f : Nat} [h : EnT P f] : EnT (cx63 P m).P f := h
theorem chk63 : ∀ c, Try.f63.body = some c → chkC Try.f63.ntmps an63 c = true := by intro c h; obtain rfl := Option.some.inj h; decide +kernel
theorem op63 {args : List PV} {v : PV} (h : X (cx63 Try.prog 0) x63 (argsA 0 args) [] (.fin [.tmp 2] fun v1 s1 => deref s1 6 v1 = v)) (hl : args.length ≤ Try.f63.ntmps := by rw [Try.ntmps63]; simp) : CallOK Try.prog 63 args [] v [] :=
  callX (m := 0) (cx63 Try.prog 0) x63 rfl rfl (by kernel_rfl) Try.func63 rfl rfl hl mixed (chk63 _ rfl) (by rw [Try.results63]; exact h)

theorem Tautology_ref (f : Fm) (hf : Pl f) (ns : List ByteArray) (hns : ns.length ≤ 20) (hn : (varsW [f]).foldl insR [] = ns) : CallOK Try.prog 63 [.agg (frm f)] [] (.bool (tautB f ns)) [] := by
  have h1 := NamesIn_ref [f] (by simp)
  rw [hn] at h1
  generalize hV : tautB f ns = V
  have hsh := shl_two ns.length hns
  unfold tautB at hV
  have hp : 2 ^ ns.length ≤ 1048576 := by
    have := Nat.pow_le_pow_right (n := 2) (by decide) hns
    simpa using this
  generalize 2 ^ ns.length = N at *
  refine op63 ?_
  (((try simp (implicitDefEqProofs := false)); (try simp (implicitDefEqProofs := false) (disch := first | assumption | (try simp only [lens]); omega -splitDisjunctions))); all_goals try (repeat' ((first | ((with_reducible first | refine And.intro ?_ ?_ | refine Exists.intro ?_ ?_); first | omega | (simp <;> omega)) | (with_reducible refine spl (And.intro ?_ ?_) <;> intro _)) <;> ((try simp (implicitDefEqProofs := false)); (try simp (implicitDefEqProofs := false) (disch := first | assumption | (try simp only [lens]); omega -splitDisjunctions))))))
  refine CL.giv [1] ?_
  (((try simp (implicitDefEqProofs := false)); (try simp (implicitDefEqProofs := false) (disch := first | assumption | (try simp only [lens]); omega -splitDisjunctions))); all_goals try (repeat' ((first | ((with_reducible first | refine And.intro ?_ ?_ | refine Exists.intro ?_ ?_); first | omega | (simp <;> omega)) | (with_reducible refine spl (And.intro ?_ ?_) <;> intro _) | (refine CL.clo (h1) ?_) | (refine CM.clo (h1) ?_) | (refine CD.clo (h1) ?_)) <;> ((try simp (implicitDefEqProofs := false)); (try simp (implicitDefEqProofs := false) (disch := first | assumption | (try simp only [lens]); omega -splitDisjunctions))))))
  refine W_of fun Q hQ => ?_
  have main : ∀ n i, i + n = N → (((List.range N).drop i).all fun k => tv (fun x => memB x (rowL ns k)) f) = V → Q [(1, .ptr 0 0 0), (3, .list (ns.map strRow)), (4, .int .i64 (i : Int))] [.rows 3 [frm f]] := by
    intro n
    induction n with
    | zero =>
      intro i hi he
      rw [List.drop_of_length_le (by simp; omega), List.all_nil] at he
      apply hQ
      clear hQ
      subst he
      (((try simp (implicitDefEqProofs := false) [hsh]); (try simp (implicitDefEqProofs := false) (disch := first | assumption | (try simp only [lens]); omega -splitDisjunctions) [hsh])); all_goals try (repeat' ((first | ((with_reducible first | refine And.intro ?_ ?_ | refine Exists.intro ?_ ?_); first | omega | (simp <;> omega)) | (with_reducible refine spl (And.intro ?_ ?_) <;> intro _)) <;> ((try simp (implicitDefEqProofs := false) [hsh]); (try simp (implicitDefEqProofs := false) (disch := first | assumption | (try simp only [lens]); omega -splitDisjunctions) [hsh])))))
    | succ n ih =>
      intro i hi he
      have ih := ih (i + 1) (by omega)
      rw [range_drop_cons (by omega), List.all_cons] at he
      have h2 := Row_ref ns (by omega) i (by omega)
      have h3 := True_ref (rowL ns i) f hf
      generalize hR : rowL ns i = R at *
      apply hQ
      clear hQ
      cases ht : tv (fun x => memB x R) f with
      | false =>
        rw [ht] at h3 he
        rw [Bool.false_and] at he
        subst he
        (((try simp (implicitDefEqProofs := false) [hsh]); (try simp (implicitDefEqProofs := false) (disch := first | assumption | (try simp only [lens]); omega -splitDisjunctions) [hsh])); all_goals try (repeat' ((first | ((with_reducible first | refine And.intro ?_ ?_ | refine Exists.intro ?_ ?_); first | omega | (simp <;> omega)) | (with_reducible refine spl (And.intro ?_ ?_) <;> intro _) | (refine CL.clo (h2) ?_) | (refine CM.clo (h2) ?_) | (refine CD.clo (h2) ?_) | (refine CL.clo (h3) ?_) | (refine CM.clo (h3) ?_) | (refine CD.clo (h3) ?_)) <;> ((try simp (implicitDefEqProofs := false) [hsh]); (try simp (implicitDefEqProofs := false) (disch := first | assumption | (try simp only [lens]); omega -splitDisjunctions) [hsh])))))
      | true =>
        rw [ht] at h3 he
        rw [Bool.true_and] at he
        have ih := ih he
        (((try simp (implicitDefEqProofs := false) [hsh]); (try simp (implicitDefEqProofs := false) (disch := first | assumption | (try simp only [lens]); omega -splitDisjunctions) [hsh])); all_goals try (repeat' ((first | ((with_reducible first | refine And.intro ?_ ?_ | refine Exists.intro ?_ ?_); first | omega | (simp <;> omega)) | (with_reducible refine spl (And.intro ?_ ?_) <;> intro _) | (refine CL.clo (h2) ?_) | (refine CM.clo (h2) ?_) | (refine CD.clo (h2) ?_) | (refine CL.clo (h3) ?_) | (refine CM.clo (h3) ?_) | (refine CD.clo (h3) ?_)) <;> ((try simp (implicitDefEqProofs := false) [hsh]); (try simp (implicitDefEqProofs := false) (disch := first | assumption | (try simp only [lens]); omega -splitDisjunctions) [hsh])))))
        all_goals first | exact ih | (refine at2 ih ?_ ?_ <;> simp; done) | (exfalso; first | omega | (simp_all; done) | (simp_all; omega))
  all_goals first | exact main _ 0 (Nat.zero_add _) (by simpa using hV) | (refine at2 main _ 0 (Nat.zero_add _) (by simpa using hV) ?_ ?_ <;> simp; done) | (exfalso; first | omega | (simp_all; done) | (simp_all; omega))
def x19 : XC := .seq (.reg [⟨some 1,.box 26 (.tmp 0),none⟩,⟨some 2,.assign (.const (.bool false)),none⟩]) (.seq (.reg [⟨some 3,.load 26 (.tmp 1),none⟩,⟨some 4,.call ⟨.value (.func 18),#[.tmp 3],#[26]⟩,none⟩,⟨some 5,.call ⟨.value (.func 63),#[.tmp 4],#[24]⟩,none⟩,⟨some 2,.assign (.tmp 5),none⟩]) (.ret))
@[simp] theorem x19_s {C : WC} {e : AE} {s : Store} {K : KS} : type_of% (@X_at C e s K _ _ x19.eq_1) := X_at x19.eq_1
def an19 : Ann := ⟨[], [], []⟩
def cx19 (P : Program) (m : Nat) : WC := ⟨P, m, an19⟩
@[simp] theorem cx19_a {P : Program} {m : Nat} : (cx19 P m).P = P ∧ (cx19 P m).m = m := ⟨rfl, rfl⟩
instance {P : Program} {m f : Nat} [h : EnT P f] : EnT (cx19 P m).P f := h
theorem chk19 : ∀ c, Try.f19.body = some c → chkC Try.f19.ntmps an19 c = true := by intro c h; obtain rfl := Option.some.inj h; decide +kernel
theorem op19 {args : List PV} {v : PV} (h : X (cx19 Try.prog 0) x19 (argsA 0 args) [] (.fin [.tmp 2] fun v1 s1 => deref s1 6 v1 = v)) (hl : args.length ≤ Try.f19.ntmps := by rw [Try.ntmps19]; simp) : CallOK Try.prog 19 args [] v [] :=
  callX (m := 0) (cx19 Try.prog 0) x19 rfl rfl (by kernel_rfl) Try.func19 rfl rfl hl mixed (chk19 _ rfl) (by rw [Try.results19]; exact h)

theorem InAll_ref (l r : List Fm) (hf : Pl (asF l r)) (ns : List ByteArray) (hns : ns.length ≤ 20) (hn : (varsW [asF l r]).foldl insR [] = ns) : CallOK Try.prog 19 [.agg [.list (l.map frm), .list (r.map frm)]] [] (.bool (tautB (asF l r) ns)) [] := by
  have h1 := As_ref l r
  have h2 := Tautology_ref _ hf ns hns hn
  refine op19 ?_
  generalize asF l r = A at *
  (((try simp (implicitDefEqProofs := false)); (try simp (implicitDefEqProofs := false) (disch := first | assumption | (try simp only [lens]); omega -splitDisjunctions))); all_goals try (repeat' ((first | ((with_reducible first | refine And.intro ?_ ?_ | refine Exists.intro ?_ ?_); first | omega | (simp <;> omega)) | (with_reducible refine spl (And.intro ?_ ?_) <;> intro _) | (refine CL.clo (h1) ?_) | (refine CM.clo (h1) ?_) | (refine CD.clo (h1) ?_) | (refine CL.clo (h2) ?_) | (refine CM.clo (h2) ?_) | (refine CD.clo (h2) ?_)) <;> ((try simp (implicitDefEqProofs := false)); (try simp (implicitDefEqProofs := false) (disch := first | assumption | (try simp only [lens]); omega -splitDisjunctions))))))
end Go.Proofs.Ytnoklmapofogeaa
namespace Go.Proofs.Ytnoklmapofogeaa
open Go Go.Pv
set_option linter.unusedVariables false
set_option linter.unusedSimpArgs false
set_option maxRecDepth 100000
set_option maxHeartbeats 4000000
def pF : Fm := .mk 1 ⟨#[112]⟩ []
def npF : Fm := .mk 4 ⟨#[]⟩ [pF]
def lemF : Fm := .mk 6 ⟨#[]⟩ [pF, npF]
def axP : Pf := .mk ⟨#[97, 120]⟩ pF [pF] [pF] []
def notP : Pf := .mk ⟨#[110, 111, 116, 45, 114]⟩ npF [] [pF, npF] [axP]
def middleP : Pf := .mk ⟨#[111, 114, 45, 114]⟩ lemF [] [lemF] [notP]
def x72 : XC := .seq (.reg [⟨some 2,.alloc 24,none⟩]) (.seq (.reg [⟨some 3,.move (.tmp 0),none⟩,⟨some 4,.build 24 #[(0,.const (.int .i64 1)),(1,.tmp 3)],none⟩,⟨none,.store 24 (.tmp 2) (.tmp 4),none⟩]) (.ret))
@[simp] theorem x72_s {C : WC} {e : AE} {s : Store} {K : KS} : type_of% (@X_at C e s K _ _ x72.eq_1) := X_at x72.eq_1
def an72 : Ann := ⟨[], [], []⟩
def cx72 (P : Program) (m : Nat) : WC := ⟨P, m, an72⟩
@[simp] theorem cx72_a {P : Program} {m : Nat} : (cx72 P m).P = P ∧ (cx72 P m).m = m := ⟨rfl, rfl⟩
instance {P : Program} {m f : Nat} [h : EnT P f] : EnT (cx72 P m).P f := h
theorem chk72 : ∀ c, Try.f72.body = some c → chkC Try.f72.ntmps an72 c = true := by intro c h; obtain rfl := Option.some.inj h; decide +kernel
theorem os72 {args : List PV} {v : PV} (h : X (cx72 Try.prog 0) x72 (argsA 0 args) [] (.fin [.cell 2 24] fun v1 s1 => softV (deref s1 6 v1) = v)) (hl : args.length ≤ Try.f72.ntmps := by rw [Try.ntmps72]; simp) : CallOK Try.prog 72 args [] v [] :=
  callXF (m := 0) (cx72 Try.prog 0) x72 rfl rfl (by kernel_rfl) Try.func72 rfl rfl hl mixed (chk72 _ rfl) (by rw [Try.results72]; exact h)

theorem named_p : CallOK Try.prog 72 [.str ⟨#[112]⟩] [] (.agg (frm pF)) [] := by
  refine os72 ?_
  (((try simp (implicitDefEqProofs := false)); (try simp (implicitDefEqProofs := false) (disch := first | assumption | (try simp only [lens]); omega -splitDisjunctions))); all_goals try (repeat' ((first | ((with_reducible first | refine And.intro ?_ ?_ | refine Exists.intro ?_ ?_); first | omega | (simp <;> omega)) | (with_reducible refine spl (And.intro ?_ ?_) <;> intro _)) <;> ((try simp (implicitDefEqProofs := false)); (try simp (implicitDefEqProofs := false) (disch := first | assumption | (try simp only [lens]); omega -splitDisjunctions))))))
  rw [frm_eq]; rfl
def x94 : XC := .seq (.reg [⟨some 3,.box 24 (.tmp 1),none⟩,⟨some 4,.alloc 24,none⟩]) (.seq (.reg [⟨some 5,.move (.tmp 0),none⟩,⟨some 6,.load 24 (.tmp 3),none⟩,⟨some 7,.buildSlice 22 1 #[(0,.tmp 6)],none⟩,⟨some 8,.build 24 #[(0,.tmp 5),(2,.tmp 7)],none⟩,⟨none,.store 24 (.tmp 4) (.tmp 8),none⟩]) (.ret))
@[simp] theorem x94_s {C : WC} {e : AE} {s : Store} {K : KS} : type_of% (@X_at C e s K _ _ x94.eq_1) := X_at x94.eq_1
def an94 : Ann := ⟨[], [], []⟩
def cx94 (P : Program) (m : Nat) : WC := ⟨P, m, an94⟩
@[simp] theorem cx94_a {P : Program} {m : Nat} : (cx94 P m).P = P ∧ (cx94 P m).m = m := ⟨rfl, rfl⟩
instance {P : Program} {m f : Nat} [h : EnT P f] : EnT (cx94 P m).P f := h
theorem chk94 : ∀ c, Try.f94.body = some c → chkC Try.f94.ntmps an94 c = true := by intro c h; obtain rfl := Option.some.inj h; decide +kernel
theorem op94 {args : List PV} {v : PV} (h : X (cx94 Try.prog 0) x94 (argsA 0 args) [] (.fin [.cell 4 24] fun v1 s1 => deref s1 6 v1 = v)) (hl : args.length ≤ Try.f94.ntmps := by rw [Try.ntmps94]; simp) : CallOK Try.prog 94 args [] v [] :=
  callX (m := 0) (cx94 Try.prog 0) x94 rfl rfl (by kernel_rfl) Try.func94 rfl rfl hl mixed (chk94 _ rfl) (by rw [Try.results94]; exact h)

theorem of_np : CallOK Try.prog 94 [.int .i64 4, .agg (frm pF)] [] (.agg (frm npF)) [] := by
  refine op94 ?_
  unfold npF
  rw [frm_eq (Fm.mk _ _ _)]
  (((try simp (implicitDefEqProofs := false)); (try simp (implicitDefEqProofs := false) (disch := first | assumption | (try simp only [lens]); omega -splitDisjunctions))); all_goals try (repeat' ((first | ((with_reducible first | refine And.intro ?_ ?_ | refine Exists.intro ?_ ?_); first | omega | (simp <;> omega)) | (with_reducible refine spl (And.intro ?_ ?_) <;> intro _)) <;> ((try simp (implicitDefEqProofs := false)); (try simp (implicitDefEqProofs := false) (disch := first | assumption | (try simp only [lens]); omega -splitDisjunctions))))))
def x73 : XC := .seq (.reg [⟨some 4,.box 24 (.tmp 1),none⟩,⟨some 5,.box 24 (.tmp 2),none⟩,⟨some 6,.alloc 24,none⟩]) (.seq (.reg [⟨some 7,.move (.tmp 0),none⟩,⟨some 8,.load 24 (.tmp 4),none⟩,⟨some 9,.load 24 (.tmp 5),none⟩,⟨some 10,.buildSlice 22 2 #[(0,.tmp 8),(1,.tmp 9)],none⟩,⟨some 11,.build 24 #[(0,.tmp 7),(2,.tmp 10)],none⟩,⟨none,.store 24 (.tmp 6) (.tmp 11),none⟩]) (.ret))
@[simp] theorem x73_s {C : WC} {e : AE} {s : Store} {K : KS} : type_of% (@X_at C e s K _ _ x73.eq_1) := X_at x73.eq_1
def an73 : Ann := ⟨[], [], []⟩
def cx73 (P : Program) (m : Nat) : WC := ⟨P, m, an73⟩
@[simp] theorem cx73_a {P : Program} {m : Nat} : (cx73 P m).P = P ∧ (cx73 P m).m = m := ⟨rfl, rfl⟩
instance {P : Program} {m f : Nat} [h : EnT P f] : EnT (cx73 P m).P f := h
theorem chk73 : ∀ c, Try.f73.body = some c → chkC Try.f73.ntmps an73 c = true := by intro c h; obtain rfl := Option.some.inj h; decide +kernel
theorem op73 {args : List PV} {v : PV} (h : X (cx73 Try.prog 0) x73 (argsA 0 args) [] (.fin [.cell 6 24] fun v1 s1 => deref s1 6 v1 = v)) (hl : args.length ≤ Try.f73.ntmps := by rw [Try.ntmps73]; simp) : CallOK Try.prog 73 args [] v [] :=
  callX (m := 0) (cx73 Try.prog 0) x73 rfl rfl (by kernel_rfl) Try.func73 rfl rfl hl mixed (chk73 _ rfl) (by rw [Try.results73]; exact h)

theorem both_lem : CallOK Try.prog 73 [.int .i64 6, .agg (frm pF), .agg (frm npF)] [] (.agg (frm lemF)) [] := by
  refine op73 ?_
  unfold lemF
  rw [frm_eq (Fm.mk _ _ _)]
  (((try simp (implicitDefEqProofs := false)); (try simp (implicitDefEqProofs := false) (disch := first | assumption | (try simp only [lens]); omega -splitDisjunctions))); all_goals try (repeat' ((first | ((with_reducible first | refine And.intro ?_ ?_ | refine Exists.intro ?_ ?_); first | omega | (simp <;> omega)) | (with_reducible refine spl (And.intro ?_ ?_) <;> intro _)) <;> ((try simp (implicitDefEqProofs := false)); (try simp (implicitDefEqProofs := false) (disch := first | assumption | (try simp only [lens]); omega -splitDisjunctions))))))
def x60 : XC := .seq (.reg [⟨some 0,.alloc 29,none⟩]) (.seq (.reg [⟨some 4,.call ⟨.value (.func 72),#[.const (.string ⟨#[112]⟩)],#[9]⟩,none⟩,⟨some 1,.alloc 24,none⟩,⟨none,.store 24 (.tmp 1) (.tmp 4),none⟩]) (.seq (.reg [⟨some 5,.load 24 (.tmp 1),none⟩,⟨some 6,.call ⟨.value (.func 94),#[.const (.int .i64 4),.tmp 5],#[3,24]⟩,none⟩,⟨some 2,.alloc 24,none⟩,⟨none,.store 24 (.tmp 2) (.tmp 6),none⟩]) (.seq (.reg [⟨some 7,.load 24 (.tmp 1),none⟩,⟨some 8,.load 24 (.tmp 2),none⟩,⟨some 9,.call ⟨.value (.func 73),#[.const (.int .i64 6),.tmp 7,.tmp 8],#[3,24,24]⟩,none⟩,⟨some 3,.alloc 24,none⟩,⟨none,.store 24 (.tmp 3) (.tmp 9),none⟩]) (.seq (.reg [⟨some 10,.load 24 (.tmp 3),none⟩,⟨some 11,.load 24 (.tmp 3),none⟩,⟨some 12,.buildSlice 22 1 #[(0,.tmp 11)],none⟩,⟨some 13,.build 26 #[(1,.tmp 12)],none⟩,⟨some 14,.load 24 (.tmp 2),none⟩,⟨some 15,.load 24 (.tmp 1),none⟩,⟨some 16,.load 24 (.tmp 2),none⟩,⟨some 17,.buildSlice 22 2 #[(0,.tmp 15),(1,.tmp 16)],none⟩,⟨some 18,.build 26 #[(1,.tmp 17)],none⟩,⟨some 19,.load 24 (.tmp 1),none⟩,⟨some 20,.load 24 (.tmp 1),none⟩,⟨some 21,.buildSlice 22 1 #[(0,.tmp 20)],none⟩,⟨some 22,.load 24 (.tmp 1),none⟩,⟨some 23,.buildSlice 22 1 #[(0,.tmp 22)],none⟩,⟨some 24,.build 26 #[(0,.tmp 21),(1,.tmp 23)],none⟩,⟨some 25,.build 29 #[(0,.const (.string ⟨#[97,120]⟩)),(1,.tmp 19),(2,.tmp 24)],none⟩,⟨some 26,.buildSlice 27 1 #[(0,.tmp 25)],none⟩,⟨some 27,.build 29 #[(0,.const (.string ⟨#[110,111,116,45,114]⟩)),(1,.tmp 14),(2,.tmp 18),(3,.tmp 26)],none⟩,⟨some 28,.buildSlice 27 1 #[(0,.tmp 27)],none⟩,⟨some 29,.build 29 #[(0,.const (.string ⟨#[111,114,45,114]⟩)),(1,.tmp 10),(2,.tmp 13),(3,.tmp 28)],none⟩,⟨none,.store 29 (.tmp 0) (.tmp 29),none⟩]) (.ret)))))
@[simp] theorem x60_s {C : WC} {e : AE} {s : Store} {K : KS} : type_of% (@X_at C e s K _ _ x60.eq_1) := X_at x60.eq_1
def an60 : Ann := ⟨[], [], []⟩
def cx60 (P : Program) (m : Nat) : WC := ⟨P, m, an60⟩
@[simp] theorem cx60_a {P : Program} {m : Nat} : (cx60 P m).P = P ∧ (cx60 P m).m = m := ⟨rfl, rfl⟩
instance {P : Program} {m f : Nat} [h : EnT P f] : EnT (cx60 P m).P f := h
theorem chk60 : ∀ c, Try.f60.body = some c → chkC Try.f60.ntmps an60 c = true := by intro c h; obtain rfl := Option.some.inj h; decide +kernel
theorem op60 {args : List PV} {v : PV} (h : X (cx60 Try.prog 0) x60 (argsA 0 args) [] (.fin [.cell 0 29] fun v1 s1 => deref s1 6 v1 = v)) (hl : args.length ≤ Try.f60.ntmps := by rw [Try.ntmps60]; simp) : CallOK Try.prog 60 args [] v [] :=
  callX (m := 0) (cx60 Try.prog 0) x60 rfl rfl (by kernel_rfl) Try.func60 rfl rfl hl mixed (chk60 _ rfl) (by rw [Try.results60]; exact h)

theorem e_pF : frm pF = [.int .i64 1, .str ⟨#[112]⟩, .list []] := by rw [frm_eq]; rfl
theorem e_npF : frm npF = [.int .i64 4, .str ⟨#[]⟩, .list [[.int .i64 1, .str ⟨#[112]⟩, .list []]]] := by rw [frm_eq, ← e_pF]; rfl
theorem e_lemF : frm lemF = [.int .i64 6, .str ⟨#[]⟩, .list [[.int .i64 1, .str ⟨#[112]⟩, .list []], [.int .i64 4, .str ⟨#[]⟩, .list [[.int .i64 1, .str ⟨#[112]⟩, .list []]]]]] := by rw [frm_eq, ← e_npF, ← e_pF]; rfl
theorem middle_law : CallOK Try.prog 60 [] [] (.agg (prf middleP)) [] := by
  have h1 := named_p
  have h2 := of_np
  have h3 := both_lem
  rw [e_pF] at h1 h2 h3
  rw [e_npF] at h2 h3
  rw [e_lemF] at h3
  refine callOK_softR (v' := ?v) (op60 ?_) ?_
  rotate_left 1
  · (((try simp (implicitDefEqProofs := false)); (try simp (implicitDefEqProofs := false) (disch := first | assumption | (try simp only [lens]); omega -splitDisjunctions))); all_goals try (repeat' ((first | ((with_reducible first | refine And.intro ?_ ?_ | refine Exists.intro ?_ ?_); first | omega | (simp <;> omega)) | (with_reducible refine spl (And.intro ?_ ?_) <;> intro _) | (refine CL.clo (h1) ?_) | (refine CM.clo (h1) ?_) | (refine CD.clo (h1) ?_) | (refine CL.clo (h2) ?_) | (refine CM.clo (h2) ?_) | (refine CD.clo (h2) ?_) | (refine CL.clo (h3) ?_) | (refine CM.clo (h3) ?_) | (refine CD.clo (h3) ?_)) <;> ((try simp (implicitDefEqProofs := false)); (try simp (implicitDefEqProofs := false) (disch := first | assumption | (try simp only [lens]); omega -splitDisjunctions))))))
    exact rfl
  · have e : prf middleP = [.str ⟨#[111, 114, 45, 114]⟩, .int .i64 6, .str ⟨#[]⟩, .list [frm pF, frm npF], .list [], .list [frm lemF], .list [[.str ⟨#[110, 111, 116, 45, 114]⟩, .int .i64 4, .str ⟨#[]⟩, .list [frm pF], .list [], .list [frm pF, frm npF], .list [[.str ⟨#[97, 120]⟩, .int .i64 1, .str ⟨#[112]⟩, .list [], .list [frm pF], .list [frm pF], .list []]]]]] := by
      rw [prf_eq]
      have e1 : prf axP = [.str ⟨#[97, 120]⟩, .int .i64 1, .str ⟨#[112]⟩, .list [], .list [frm pF], .list [frm pF], .list []] := by rw [prf_eq]; rfl
      have e2 : prf notP = [.str ⟨#[110, 111, 116, 45, 114]⟩, .int .i64 4, .str ⟨#[]⟩, .list [frm pF], .list [], .list [frm pF, frm npF], .list [prf axP]] := by rw [prf_eq]; rfl
      rw [← e1, ← e2]; rfl
    rw [e, e_pF, e_npF, e_lemF]
    repeat' (first | exact SoftL.nil | exact SoftR.nil | exact Soft.nil | exact Soft.refl | apply Soft.agg | apply Soft.list | apply SoftL.cons | apply SoftR.cons)
theorem mid_pl : (plainF pF).1 = 0 ∧ (plainF npF).1 = 0 ∧ (plainF lemF).1 = 0 := ⟨by kernel_rfl, by kernel_rfl, by kernel_rfl⟩
theorem step_ok {u : Bool} {p : Pf} {e : Ent} {qs : List Prem} (hw : p.rule ≠ ⟨#[119, 101, 97, 107]⟩) (h : ruleT u p.rule = some e) (hp : (plainF p.f).1 = 0) (hb : e.R p.f p.l p.r = (qs, true)) (hl : p.kids.length = qs.length) (hm : meetB qs p.kids = true) : stepF u p = 0 := by
  unfold stepF
  rw [if_neg hw, h]
  dsimp only
  rw [hb, if_neg (by simpa using hp), if_neg (by simp), if_neg (by simpa using hl), if_pos hm]
theorem hasF_of {l : List Fm} {f : Fm} (h : f ∈ l) : hasF l f = true := hasF_iff.2 h
theorem same_self (l : List Fm) : sameF l l = true := by
  unfold sameF
  have : ∀ l : List Fm, withinF l l = true := by
    intro l
    induction l with
    | nil => rfl
    | cons a r ih => rw [withinF, hasF_of List.mem_cons_self, List.erase_cons_head, ih]; rfl
  rw [this]; simp
theorem mid_ax : stepF false axP = 0 := by
  refine step_ok (e := ⟨145, [], axR⟩) (qs := []) (by decide) (by kernel_rfl) mid_pl.1 ?_ rfl rfl
  show axR pF [pF] [pF] = _
  unfold axR
  rw [hasF_of (by simp)]; rfl
theorem mid_not : stepF false notP = 0 := by
  refine step_ok (e := ⟨154, [], notRR⟩) (qs := [([pF], [pF])]) (by decide) (by kernel_rfl) mid_pl.2.1 ?_ rfl ?_
  · show notRR npF [] [pF, npF] = _
    unfold notRR kindF
    have hne : (pF == npF) = false := by
      rw [Bool.eq_false_iff]; intro h
      have h2 : Fm.kind pF = Fm.kind npF := by rw [eq_of_beq h]
      exact absurd h2 (by decide)
    rw [hasF_of (by simp), List.erase_cons_tail (by rw [hne]; simp), List.erase_cons_head]; rfl
  · show (sameF [pF] [pF] && sameF [pF] [pF] && meetB [] []) = true
    rw [same_self]; rfl
theorem mid_or : stepF false middleP = 0 := by
  refine step_ok (e := ⟨156, [], orRR⟩) (qs := [([], [pF, npF])]) (by decide) (by kernel_rfl) mid_pl.2.2 ?_ rfl ?_
  · show orRR lemF [] [lemF] = _
    unfold orRR kindF
    rw [hasF_of (by simp), List.erase_cons_head]; rfl
  · show (sameF [] [] && sameF [pF, npF] [pF, npF] && meetB [] []) = true
    rw [same_self, same_self]; rfl
theorem mid_false : checkF false middleP = (0, 0) := by
  have e1 : ∀ n, lookF false axP 2 n = if 20000 ≤ 2 ∨ 400 < n then (3, (2, 0)) else (3, (0, 0)) := by
    intro n
    rw [lookF_eq, mid_ax]
    rfl
  unfold checkF
  rw [lookF_eq, mid_or]
  show (looksF false [notP] 1 2).2 = _
  rw [looksF, looksF, lookF_eq, mid_not]
  show (if (looksF false [axP] 2 3).2.1 ≠ 0 then looksF false [axP] 2 3 else ((looksF false [axP] 2 3).1, (0, 0))).2 = _
  rw [looksF, looksF, e1]
  rfl
theorem mid_true : checkF true middleP = (4, 0) := by kernel_rfl
def x14 : XC := .seq (.reg [⟨some 0,.assign (.const (.bool false)),none⟩]) (.seq (.reg [⟨some 3,.call ⟨.value (.func 60),#[],#[]⟩,none⟩,⟨some 4,.call ⟨.value (.func 16),#[.tmp 3,.const (.bool false)],#[29,4]⟩,none⟩,⟨some 1,.alloc 33,none⟩,⟨none,.store 33 (.tmp 1) (.tmp 4),none⟩]) (.seq (.reg [⟨some 5,.call ⟨.value (.func 60),#[],#[]⟩,none⟩,⟨some 6,.call ⟨.value (.func 16),#[.tmp 5,.const (.bool true)],#[29,4]⟩,none⟩,⟨some 2,.alloc 33,none⟩,⟨none,.store 33 (.tmp 2) (.tmp 6),none⟩]) (.seq (.drawn 3 [⟨some 7,.fieldAddr 33 (.tmp 1) 0,none⟩,⟨some 8,.load 3 (.tmp 7),none⟩,⟨some 9,.binOp .eql 3 (.tmp 8) (.const (.int .i64 0)) 3,none⟩,⟨some 10,.move (.tmp 9),none⟩,⟨some 11,.load 33 (.tmp 2),some (some 10,true)⟩,⟨some 12,.call ⟨.value (.func 38),#[.const (.int .i64 4),.const (.int .i64 0)],#[3,3]⟩,some (some 10,true)⟩,⟨some 13,.binOp .eql 33 (.tmp 11) (.tmp 12) 33,some (some 10,true)⟩,⟨some 14,.pick (.tmp 10) (.tmp 13) (.const (.bool false)),none⟩,⟨some 0,.assign (.tmp 14),none⟩]) (.ret))))
@[simp] theorem x14_s {C : WC} {e : AE} {s : Store} {K : KS} : type_of% (@X_at C e s K _ _ x14.eq_1) := X_at x14.eq_1
def an14 : Ann := ⟨[(3, .mix 6)], [], []⟩
def cx14 (P : Program) (m : Nat) : WC := ⟨P, m, an14⟩
@[simp] theorem cx14_a {P : Program} {m : Nat} : (cx14 P m).P = P ∧ (cx14 P m).m = m ∧ (cx14 P m).A.clsOf 3 = .mix 6 ∧ (cx14 P m).A.frzOf 3 = [] := ⟨rfl, rfl, rfl, rfl⟩
instance {P : Program} {m f : Nat} [h : EnT P f] : EnT (cx14 P m).P f := h
theorem chk14 : ∀ c, Try.f14.body = some c → chkC Try.f14.ntmps an14 c = true := by intro c h; obtain rfl := Option.some.inj h; decide +kernel
theorem op14 {args : List PV} {v : PV} (h : X (cx14 Try.prog 0) x14 (argsA 0 args) [] (.fin [.tmp 0] fun v1 s1 => deref s1 6 v1 = v)) (hl : args.length ≤ Try.f14.ntmps := by rw [Try.ntmps14]; simp) : CallOK Try.prog 14 args [] v [] :=
  callX (m := 0) (cx14 Try.prog 0) x14 rfl rfl (by kernel_rfl) Try.func14 rfl rfl hl mixed (chk14 _ rfl) (by rw [Try.results14]; exact h)

theorem calculusBegun_law : CallOK Try.prog 14 [] [] (.bool true) [] := by
  have h1 := middle_law
  have hsz : Szs middleP := .mk ⟨by decide, by decide⟩ (fun k hk => by
    rw [List.mem_singleton.1 hk]
    exact .mk ⟨by decide, by decide⟩ (fun k hk => by
      rw [List.mem_singleton.1 hk]
      exact .mk ⟨by decide, by decide⟩ (fun k hk => nomatch hk) (by decide)) (by decide)) (by decide)
  have h2 := Check_calculus false middleP hsz
  have h3 := Check_calculus true middleP hsz
  rw [mid_false] at h2
  rw [mid_true] at h3
  have h4 := F_ref 4 0
  generalize middleP = M at *
  refine op14 ?_
  (((try simp (implicitDefEqProofs := false)); (try simp (implicitDefEqProofs := false) (disch := first | assumption | (try simp only [lens]); omega -splitDisjunctions))); all_goals try (repeat' ((first | ((with_reducible first | refine And.intro ?_ ?_ | refine Exists.intro ?_ ?_); first | omega | (simp <;> omega)) | (with_reducible refine spl (And.intro ?_ ?_) <;> intro _) | (refine CL.clo (h1) ?_) | (refine CM.clo (h1) ?_) | (refine CD.clo (h1) ?_) | (refine CL.clo (h2) ?_) | (refine CM.clo (h2) ?_) | (refine CD.clo (h2) ?_) | (refine CL.clo (h3) ?_) | (refine CM.clo (h3) ?_) | (refine CD.clo (h3) ?_) | (refine CL.clo (h4) ?_) | (refine CM.clo (h4) ?_) | (refine CD.clo (h4) ?_)) <;> ((try simp (implicitDefEqProofs := false)); (try simp (implicitDefEqProofs := false) (disch := first | assumption | (try simp only [lens]); omega -splitDisjunctions))))))
end Go.Proofs.Ytnoklmapofogeaa
namespace Go.Proofs.Ytnoklmapofogeaa
open Go Go.Pv
set_option linter.unusedVariables false
set_option linter.unusedSimpArgs false
set_option maxRecDepth 100000
set_option maxHeartbeats 4000000

theorem plOf {k : Int} {nm : ByteArray} {l : List Fm} (h : okN (.mk k nm l)) (hk : k ≤ 7) (hl : ∀ g ∈ l, Pl g) : Pl (.mk k nm l) := by
  have key : ∀ x ∈ pre (.mk k nm l), okN x ∧ x.kind ≤ 7 := by
    intro x hx
    rw [pre_eq] at hx
    rcases List.mem_cons.1 hx with rfl | hx
    · exact ⟨h, hk⟩
    · have : ∀ l : List Fm, (∀ g ∈ l, Pl g) → x ∈ pres l → okN x ∧ x.kind ≤ 7 := by
        intro l
        induction l with
        | nil => intro _ hx; rw [pres_nil] at hx; cases hx
        | cons a r ih =>
          intro hl hx
          rw [pres_cons] at hx
          rcases List.mem_append.1 hx with hx | hx
          · exact ⟨(hl a (.head _)).1 x hx, (hl a (.head _)).2 x hx⟩
          · exact ih (fun g hg => hl g (.tail _ hg)) hx
      exact this l hl hx
  exact ⟨fun x hx => (key x hx).1, fun x hx => (key x hx).2⟩
theorem andsL_ok (l : List Fm) (h : ∀ f ∈ l, Pl f) : Pl (andsL l) ∧ ∀ v, tv v (andsL l) = l.all (tv v) := by
  have key : ∀ (l : List Fm) (a : Fm), (∀ f ∈ l, Pl f) → Pl a → Pl (l.foldl (fun a f => .mk 5 ⟨#[]⟩ [a, f]) a) ∧ ∀ v, tv v (l.foldl (fun a f => .mk 5 ⟨#[]⟩ [a, f]) a) = (tv v a && l.all (tv v)) := by
    intro l
    induction l with
    | nil => intro a _ ha; exact ⟨ha, fun v => by simp⟩
    | cons f r ih =>
      intro a hl ha
      obtain ⟨h1, h2⟩ := ih (.mk 5 ⟨#[]⟩ [a, f]) (fun f hf => hl f (.tail _ hf)) (plOf (by simp [okN, kidsN]) (by decide) (by
        intro g hg
        rcases List.mem_cons.1 hg with rfl | hg
        · exact ha
        · rw [List.mem_singleton.1 hg]; exact hl f (.head _)))
      refine ⟨h1, fun v => ?_⟩
      rw [List.foldl_cons, h2, tv_5, List.all_cons, Bool.and_assoc]
  obtain ⟨h1, h2⟩ := key l (.mk 2 ⟨#[]⟩ []) h (plOf (by simp [okN, kidsN]) (by decide) (by simp))
  exact ⟨h1, fun v => by unfold andsL; rw [h2, tv_2, Bool.true_and]⟩
theorem orsL_ok (l : List Fm) (h : ∀ f ∈ l, Pl f) : Pl (orsL l) ∧ ∀ v, tv v (orsL l) = l.any (tv v) := by
  have key : ∀ (l : List Fm) (a : Fm), (∀ f ∈ l, Pl f) → Pl a → Pl (l.foldl (fun a f => .mk 6 ⟨#[]⟩ [a, f]) a) ∧ ∀ v, tv v (l.foldl (fun a f => .mk 6 ⟨#[]⟩ [a, f]) a) = (tv v a || l.any (tv v)) := by
    intro l
    induction l with
    | nil => intro a _ ha; exact ⟨ha, fun v => by simp⟩
    | cons f r ih =>
      intro a hl ha
      obtain ⟨h1, h2⟩ := ih (.mk 6 ⟨#[]⟩ [a, f]) (fun f hf => hl f (.tail _ hf)) (plOf (by simp [okN, kidsN]) (by decide) (by
        intro g hg
        rcases List.mem_cons.1 hg with rfl | hg
        · exact ha
        · rw [List.mem_singleton.1 hg]; exact hl f (.head _)))
      refine ⟨h1, fun v => ?_⟩
      rw [List.foldl_cons, h2, tv_6, List.any_cons, Bool.or_assoc]
  obtain ⟨h1, h2⟩ := key l (.mk 3 ⟨#[]⟩ []) h (plOf (by simp [okN, kidsN]) (by decide) (by simp))
  exact ⟨h1, fun v => by unfold orsL; rw [h2, tv_3, Bool.false_or]⟩
theorem asF_ok (l r : List Fm) (hl : ∀ f ∈ l, Pl f) (hr : ∀ f ∈ r, Pl f) : Pl (asF l r) ∧ ∀ v, tv v (asF l r) = true ↔ SqT v l r := by
  obtain ⟨a1, a2⟩ := andsL_ok l hl
  obtain ⟨b1, b2⟩ := orsL_ok r hr
  refine ⟨plOf (by simp [okN, kidsN]) (by decide) (by simp [a1, b1]), fun v => ?_⟩
  unfold asF
  rw [tv_7, a2, b2, Bool.or_eq_true, Bool.not_eq_true']
  unfold SqT AllT AnyT
  rw [List.any_eq_true, ← List.all_eq_true]
  cases h : l.all (tv v) <;> simp
def x3 : XC := .seq (.reg [⟨some 2,.box 29 (.tmp 0),none⟩,⟨some 4,.assign (.const (.bool false)),none⟩]) (.seq (.seq (.reg [⟨some 6,.call ⟨.value (.func 14),#[],#[]⟩,none⟩,⟨some 7,.unOp .not 4 (.tmp 6),none⟩]) (.cond (.tmp 7) (.seq (.reg [⟨some 4,.assign (.const (.bool false)),none⟩]) (.ret)) (.skip))) (.seq (.seq (.reg [⟨some 8,.load 29 (.tmp 2),none⟩,⟨some 9,.call ⟨.value (.func 15),#[.tmp 8,.const (.int .i64 0)],#[29,3]⟩,none⟩]) (.cond (.tmp 9) (.seq (.reg [⟨some 4,.assign (.const (.bool true)),none⟩]) (.ret)) (.skip))) (.seq (.reg [⟨some 10,.load 29 (.tmp 2),none⟩,⟨some 11,.move (.tmp 1),none⟩,⟨some 12,.call ⟨.value (.func 16),#[.tmp 10,.tmp 11],#[29,4]⟩,none⟩,⟨some 5,.alloc 33,none⟩,⟨none,.store 33 (.tmp 5) (.tmp 12),none⟩]) (.seq (.seq (.reg [⟨some 13,.fieldAddr 33 (.tmp 5) 0,none⟩,⟨some 14,.load 3 (.tmp 13),none⟩,⟨some 15,.binOp .neq 3 (.tmp 14) (.const (.int .i64 0)) 3,none⟩,⟨some 16,.move (.tmp 15),none⟩,⟨some 17,.fieldAddr 29 (.tmp 2) 2,some (some 16,false)⟩,⟨some 18,.load 26 (.tmp 17),some (some 16,false)⟩,⟨some 19,.call ⟨.value (.func 18),#[.tmp 18],#[26]⟩,some (some 16,false)⟩,⟨some 20,.buildSlice 22 1 #[(0,.tmp 19)],some (some 16,false)⟩,⟨some 21,.call ⟨.value (.func 17),#[.tmp 20],#[22]⟩,some (some 16,false)⟩,⟨some 22,.call ⟨.builtin .len,#[.tmp 21],#[35]⟩,some (some 16,false)⟩,⟨some 23,.binOp .gtr 3 (.tmp 22) (.const (.int .i64 10)) 3,some (some 16,false)⟩,⟨some 24,.pick (.tmp 16) (.const (.bool true)) (.tmp 23),none⟩]) (.cond (.tmp 24) (.seq (.reg [⟨some 4,.assign (.const (.bool true)),none⟩]) (.ret)) (.skip))) (.seq (.reg [⟨some 25,.fieldAddr 29 (.tmp 2) 2,none⟩,⟨some 26,.load 26 (.tmp 25),none⟩,⟨some 27,.call ⟨.value (.func 19),#[.tmp 26],#[26]⟩,none⟩,⟨some 4,.assign (.tmp 27),none⟩]) (.ret))))))
@[simp] theorem x3_s {C : WC} {e : AE} {s : Store} {K : KS} : type_of% (@X_at C e s K _ _ x3.eq_1) := X_at x3.eq_1
def an3 : Ann := ⟨[], [], []⟩
def cx3 (P : Program) (m : Nat) : WC := ⟨P, m, an3⟩
@[simp] theorem cx3_a {P : Program} {m : Nat} : (cx3 P m).P = P ∧ (cx3 P m).m = m := ⟨rfl, rfl⟩
instance {P : Program} {m f : Nat} [h : EnT P f] : EnT (cx3 P m).P f := h
theorem chk3 : ∀ c, Try.f3.body = some c → chkC Try.f3.ntmps an3 c = true := by intro c h; obtain rfl := Option.some.inj h; decide +kernel
theorem op3 {args : List PV} {v : PV} (h : X (cx3 Try.prog 0) x3 (argsA 0 args) [] (.fin [.tmp 4] fun v1 s1 => deref s1 6 v1 = v)) (hl : args.length ≤ Try.f3.ntmps := by rw [Try.ntmps3]; simp) : CallOK Try.prog 3 args [] v [] :=
  callX (m := 0) (cx3 Try.prog 0) x3 rfl rfl (by kernel_rfl) Try.func3 rfl rfl hl mixed (chk3 _ rfl) (by rw [Try.results3]; exact h)

theorem calculusSound_law (p : Pf) (u : Bool) : CallOK Try.prog 3 [.agg (prf p), .bool u] [] (.bool true) [] := by
  have h0 := calculusBegun_law
  have h1 := VastProof_ref p 0 (by decide) (by decide)
  refine op3 ?_
  cases hv : vastP p 0 with
  | true =>
    rw [hv] at h1
    (((try simp (implicitDefEqProofs := false)); (try simp (implicitDefEqProofs := false) (disch := first | assumption | (try simp only [lens]); omega -splitDisjunctions))); all_goals try (repeat' ((first | ((with_reducible first | refine And.intro ?_ ?_ | refine Exists.intro ?_ ?_); first | omega | (simp <;> omega)) | (with_reducible refine spl (And.intro ?_ ?_) <;> intro _) | (refine CL.clo (h0) ?_) | (refine CM.clo (h0) ?_) | (refine CD.clo (h0) ?_) | (refine CL.clo (h1) ?_) | (refine CM.clo (h1) ?_) | (refine CD.clo (h1) ?_)) <;> ((try simp (implicitDefEqProofs := false)); (try simp (implicitDefEqProofs := false) (disch := first | assumption | (try simp only [lens]); omega -splitDisjunctions))))))
  | false =>
    rw [hv] at h1
    have hsz := vast_szs p 0 hv
    have h2 := Check_calculus u p hsz
    by_cases hc : (checkF u p).1 = 0
    · have hfine : Fine u p := Fine.of_look p 0 1 hc
      have hall : ∀ v, SqT v p.l p.r := fine_true hfine
      obtain ⟨s1, s2, s3⟩ : p.l.length + p.r.length ≤ 60 ∧ (∀ f ∈ p.l, (plainF f).1 = 0) ∧ ∀ f ∈ p.r, (plainF f).1 = 0 := by
        cases hfine with | mk hs _ _ _ => exact sequent_all hs
      obtain ⟨hpl, htv⟩ := asF_ok p.l p.r (fun f hf => ((plainF_iff f).1 (s2 f hf)).1) (fun f hf => ((plainF_iff f).1 (s3 f hf)).1)
      have h3 := As_ref p.l p.r
      have h4 := NamesIn_ref [asF p.l p.r] (by simp)
      generalize hns : (varsW [asF p.l p.r]).foldl insR [] = ns at *
      generalize checkF u p = V at *
      by_cases h10 : ns.length ≤ 10
      · have h5 := InAll_ref p.l p.r hpl ns (by omega) hns
        have ht : tautB (asF p.l p.r) ns = true := by
          unfold tautB
          rw [List.all_eq_true]
          exact fun k _ => (htv _).2 (hall _)
        rw [ht] at h5
        have h10i : ¬ (10 : Int) < (ns.length : Int) := by omega
        generalize asF p.l p.r = A at *
        (((try simp (implicitDefEqProofs := false) [hc]); (try simp (implicitDefEqProofs := false) (disch := first | assumption | (try simp only [lens]); omega -splitDisjunctions) [hc])); all_goals try (repeat' ((first | ((with_reducible first | refine And.intro ?_ ?_ | refine Exists.intro ?_ ?_); first | omega | (simp <;> omega)) | (with_reducible refine spl (And.intro ?_ ?_) <;> intro _) | (refine CL.clo (h0) ?_) | (refine CM.clo (h0) ?_) | (refine CD.clo (h0) ?_) | (refine CL.clo (h1) ?_) | (refine CM.clo (h1) ?_) | (refine CD.clo (h1) ?_) | (refine CL.clo (h2) ?_) | (refine CM.clo (h2) ?_) | (refine CD.clo (h2) ?_) | (refine CL.clo (h3) ?_) | (refine CM.clo (h3) ?_) | (refine CD.clo (h3) ?_)) <;> ((try simp (implicitDefEqProofs := false) [hc]); (try simp (implicitDefEqProofs := false) (disch := first | assumption | (try simp only [lens]); omega -splitDisjunctions) [hc])))))
        refine CL.giv [2] ?_
        (((try simp (implicitDefEqProofs := false) [h10i]); (try simp (implicitDefEqProofs := false) (disch := first | assumption | (try simp only [lens]); omega -splitDisjunctions) [h10i])); all_goals try (repeat' ((first | ((with_reducible first | refine And.intro ?_ ?_ | refine Exists.intro ?_ ?_); first | omega | (simp <;> omega)) | (with_reducible refine spl (And.intro ?_ ?_) <;> intro _) | (refine CL.clo (h4) ?_) | (refine CM.clo (h4) ?_) | (refine CD.clo (h4) ?_) | (refine CL.clo (h5) ?_) | (refine CM.clo (h5) ?_) | (refine CD.clo (h5) ?_)) <;> ((try simp (implicitDefEqProofs := false) [h10i]); (try simp (implicitDefEqProofs := false) (disch := first | assumption | (try simp only [lens]); omega -splitDisjunctions) [h10i])))))
      · have h10i : (10 : Int) < (ns.length : Int) := by omega
        generalize asF p.l p.r = A at *
        (((try simp (implicitDefEqProofs := false) [hc]); (try simp (implicitDefEqProofs := false) (disch := first | assumption | (try simp only [lens]); omega -splitDisjunctions) [hc])); all_goals try (repeat' ((first | ((with_reducible first | refine And.intro ?_ ?_ | refine Exists.intro ?_ ?_); first | omega | (simp <;> omega)) | (with_reducible refine spl (And.intro ?_ ?_) <;> intro _) | (refine CL.clo (h0) ?_) | (refine CM.clo (h0) ?_) | (refine CD.clo (h0) ?_) | (refine CL.clo (h1) ?_) | (refine CM.clo (h1) ?_) | (refine CD.clo (h1) ?_) | (refine CL.clo (h2) ?_) | (refine CM.clo (h2) ?_) | (refine CD.clo (h2) ?_) | (refine CL.clo (h3) ?_) | (refine CM.clo (h3) ?_) | (refine CD.clo (h3) ?_)) <;> ((try simp (implicitDefEqProofs := false) [hc]); (try simp (implicitDefEqProofs := false) (disch := first | assumption | (try simp only [lens]); omega -splitDisjunctions) [hc])))))
        refine CL.giv [2] ?_
        (((try simp (implicitDefEqProofs := false) [h10i]); (try simp (implicitDefEqProofs := false) (disch := first | assumption | (try simp only [lens]); omega -splitDisjunctions) [h10i])); all_goals try (repeat' ((first | ((with_reducible first | refine And.intro ?_ ?_ | refine Exists.intro ?_ ?_); first | omega | (simp <;> omega)) | (with_reducible refine spl (And.intro ?_ ?_) <;> intro _) | (refine CL.clo (h4) ?_) | (refine CM.clo (h4) ?_) | (refine CD.clo (h4) ?_)) <;> ((try simp (implicitDefEqProofs := false) [h10i]); (try simp (implicitDefEqProofs := false) (disch := first | assumption | (try simp only [lens]); omega -splitDisjunctions) [h10i])))))
    · generalize checkF u p = V at *
      (((try simp (implicitDefEqProofs := false) [hc]); (try simp (implicitDefEqProofs := false) (disch := first | assumption | (try simp only [lens]); omega -splitDisjunctions) [hc])); all_goals try (repeat' ((first | ((with_reducible first | refine And.intro ?_ ?_ | refine Exists.intro ?_ ?_); first | omega | (simp <;> omega)) | (with_reducible refine spl (And.intro ?_ ?_) <;> intro _) | (refine CL.clo (h0) ?_) | (refine CM.clo (h0) ?_) | (refine CD.clo (h0) ?_) | (refine CL.clo (h1) ?_) | (refine CM.clo (h1) ?_) | (refine CD.clo (h1) ?_) | (refine CL.clo (h2) ?_) | (refine CM.clo (h2) ?_) | (refine CD.clo (h2) ?_)) <;> ((try simp (implicitDefEqProofs := false) [hc]); (try simp (implicitDefEqProofs := false) (disch := first | assumption | (try simp only [lens]); omega -splitDisjunctions) [hc])))))
end Go.Proofs.Ytnoklmapofogeaa
namespace Go.Proofs.Ytnoklmapofogeaa
open Go Go.Pv Go.ChangeShapes Go.WideShapes Go.ChangeAt Go.RowKit
set_option linter.unusedVariables false

theorem z_own : ownKnob Try.prog.godebug = none := by kernel_rfl

theorem z_call (rows : List (List PV)) (h : AllTy Try.prog [29, 4] rows) :
    CallOK Try.prog 3 (argsOf Try.prog [29, 4] rows) [] (.bool true) [] := by
  obtain ⟨r0, rs, rfl, h0, h⟩ := allTy_cons h
  obtain ⟨r1, rs, rfl, h1, h⟩ := allTy_cons h
  obtain rfl := allTy_nil h
  obtain ⟨p0, rfl⟩ := pf_of h0
  obtain ⟨b1, rfl⟩ := bool_of h1
  simp only [argsOf]
  rw [argOf_agg ty29 rfl, argOf_one ty4 rfl]
  exact calculusSound_law p0 b1

set_option maxRecDepth 100000 in
theorem z_lifted (os : Os) (started : os.Started) (H : Type) (enc : TypeId × Value → H) :
    ReturnsInHanded {} Try.checked os 3 .any (Rows.calculusSoundSpec.pre6 enc Try.prog Try.f3 Rows.calculusSoundRow.domain false) (Rows.calculusSoundSpec.post enc Try.prog Try.f3 false true false false) := by
  refine returnsInHanded_of_change_sized (C := Try.checked) (s := Rows.calculusSoundSpec) z_own started (by kernel_rfl) Try.func3
    (ChangeSpec.witness6 (enc := enc) (C := Try.checked) (s := Rows.calculusSoundSpec) false ⟨#[], #[.agg #[.string ⟨#[]⟩, .int .i64 0, .string ⟨#[]⟩, .slice none 0 0, .slice none 0 0, .slice none 0 0, .slice none 0 0], .bool false], []⟩ 8 (by kernel_rfl) (by kernel_rfl) (by kernel_rfl) (by kernel_rfl)) ?_
  intro W base args ds gs before hval hW _ hz _
  exact law_contract (s := Rows.calculusSoundSpec) (tb := 4) [29, 9, 24, 3, 22, 26, 27, 4] (by kernel_rfl) (by kernel_rfl) (by kernel_rfl) (by kernel_rfl) rfl (by kernel_rfl) (und_bool ty4 rfl)
    (fun ds h => by match ds, h with | [d1, d2], _ => rfl)
    (fun rows h => by rw [Try.params3] at h ⊢; exact z_call rows h) W base args ds gs before hval hW hz

theorem calculusSound_holds : Rows.CalculusSoundSaid :=
  OpenClaim.holds_of_wide 3 Try.f3 rfl rfl rfl rfl rfl rfl rfl ⟨rfl, rfl, rfl, rfl, rfl⟩ rfl rfl rfl rfl rfl (by kernel_rfl) Try.func3 (by kernel_rfl)
    (of_decide_eq_true (by kernel_rfl)) (by unfold Func.isWrapper; first | (rw [if_pos (by decide +kernel)]; kernel_rfl) | (rw [if_neg (by decide +kernel)]; exact ⟨rfl, rfl⟩))
    (fun os started H enc _ => z_lifted os started H enc)

end Go.Proofs.Ytnoklmapofogeaa
