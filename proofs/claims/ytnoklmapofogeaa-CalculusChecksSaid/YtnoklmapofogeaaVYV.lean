import Derived.Test.YtnoklmapofogeaaVPvData
import Derived.DataReads
import Derived.ChangeShapes
import Derived.WalkKit
import Derived.ProofKit
import Derived.OpenShut
import Derived.Below
import Derived.Carry
import Derived.SizedLaws
import Derived.Test.YtnoklmapofogeaaVTy
import Derived.Test.YtnoklmapofogeaaVCcP
import Derived.Test.YtnoklmapofogeaaVCcT
import Derived.Test.YtnoklmapofogeaaVCdB
import Derived.Test.YtnoklmapofogeaaVCcN
import Derived.Test.YtnoklmapofogeaaVCcL
import Derived.Test.YtnoklmapofogeaaRows
namespace Go.Pv
open Go
set_option linter.unusedVariables false
set_option linter.unusedSimpArgs false

inductive HasTy (P : Program) : TypeId → List PV → Prop where
  | bool {t b} (h : P.underlying t = some .bool) : HasTy P t [.bool b]
  | int {t k n} (h : P.underlying t = some (.int k)) (wf : (Lit.int k n).wf = true) : HasTy P t [.int k n]
  | str {t s} (h : P.underlying t = some .string) (hs : s.size ≤ maxLen) (hb : s.size ≤ reachBytes) : HasTy P t [.str s]
  | slice {t e rows} (h : P.underlying t = some (.slice e)) (hr : ∀ row ∈ rows, HasTy P e row) (hb : rows.length * P.bytesOf e ≤ reachBytes) : HasTy P t [.list rows]
  | struct {t} {fs : Array Field} {parts : List (List PV)} (h : P.underlying t = some (.struct fs)) (hl : parts.length = fs.size)
      (hp : ∀ (i : Nat) (f : Field) (row : List PV), fs[i]? = some f → parts[i]? = some row → HasTy P f.type row) : HasTy P t parts.flatten
  | array {t n e} {parts : List (List PV)} (h : P.underlying t = some (.array n e)) (hl : parts.length = n) (hp : ∀ row ∈ parts, HasTy P e row) : HasTy P t parts.flatten

def RowRel (pub : PHeap) (row : List PV) (cs : List Value) : Prop := row.length = cs.length ∧ ∀ (j : Nat) (v : PV) (c : Value), row[j]? = some v → cs[j]? = some c → Rel pub noSig v c
theorem RowRel.nil {pub : PHeap} : RowRel pub [] [] := ⟨rfl, fun j v c h => by simp at h⟩
theorem RowRel.one {pub : PHeap} {v : PV} {c : Value} (h : Rel pub noSig v c) : RowRel pub [v] [c] := ⟨rfl, fun j x y hx hy => by
  cases j with
  | zero => simp at hx hy; subst hx hy; exact h
  | succ j => simp at hx⟩
theorem RowRel.append {pub : PHeap} {r r' : List PV} {cs cs' : List Value} (h : RowRel pub r cs) (g : RowRel pub r' cs') : RowRel pub (r ++ r') (cs ++ cs') := by
  refine ⟨by simp [h.1, g.1], fun j v c hv hc => ?_⟩
  rw [List.getElem?_append] at hv hc
  split at hv
  · rename_i hlt; rw [if_pos (by rw [← h.1]; exact hlt)] at hc; exact h.2 j v c hv hc
  · rename_i hge; rw [if_neg (by rw [← h.1]; exact hge), ← h.1] at hc; exact g.2 _ v c hv hc

def contig (P : Program) (total : Nat) : List Field → Nat → Bool
  | [], o => o == total
  | f :: r, o => f.offset == o && contig P total r (o + P.cellsOf f.type)
def tyOK (P : Program) (S : List TypeId) (t : TypeId) : Bool := match P.underlying t with
  | some .bool | some (.int _) | some .string => true
  | some (.slice e) => S.contains e && decide (0 < P.cellsOf e)
  | some (.struct fs) => contig P (P.cellsOf t) fs.toList 0 && fs.toList.all fun f => S.contains f.type
  | some (.array n e) => S.contains e && n * P.cellsOf e == P.cellsOf t
  | _ => false

theorem rows_of {α : Type} (p : Nat → α → Prop) : ∀ n, (∀ i, i < n → ∃ x, p i x) → ∃ l : List α, l.length = n ∧ ∀ i x, l[i]? = some x → p i x := by
  intro n
  induction n with
  | zero => intro _; exact ⟨[], rfl, fun i x h => by simp at h⟩
  | succ n ih =>
    intro h
    obtain ⟨l, hl, hp⟩ := ih fun i hi => h i (by omega)
    obtain ⟨x, hx⟩ := h n (by omega)
    refine ⟨l ++ [x], by simp [hl], fun i y hy => ?_⟩
    rw [List.getElem?_append] at hy
    split at hy
    · exact hp i y hy
    · rename_i hge
      have hi := lt_of_getElem? hy
      simp only [List.length_cons, List.length_nil] at hi
      have hin : i = n := by omega
      subst hin
      rw [show i - l.length = 0 by omega] at hy
      simp at hy; subst hy; exact hx

section
variable {H : Type} {enc : TypeId × Value → H} {P : Program} {S : List TypeId} {w : World} {spare : Nat → Bool} {held : Bool}

theorem fields_rel {fuel total : Nat} {cs : List Value} {pub : PHeap} (hcs : cs.length = total)
    (ih : ∀ (t : TypeId) (cs : List Value) (x : DataW H × List MemPlace), S.contains t = true → DataW.trod enc P w 0 spare held fuel t cs = some x → (∀ n ∈ DataW.weights P t x.1, n ≤ reachBytes) → ∃ row, HasTy P t row ∧ RowRel pub row cs) :
    ∀ (fs : List Field) (o : Nat) (xs : List (DataW H × List MemPlace)), contig P total fs o = true → (fs.all fun f => S.contains f.type) = true →
      (fs.mapM fun f => DataW.trod enc P w 0 spare held fuel f.type ((cs.drop f.offset).take (P.cellsOf f.type))) = some xs → (∀ n ∈ DataW.weightsEach P (fs.map (·.type)) (xs.map (·.1)), n ≤ reachBytes) →
      o ≤ total ∧ ∃ parts : List (List PV), parts.length = fs.length ∧ (∀ (i : Nat) (f : Field) (row : List PV), fs[i]? = some f → parts[i]? = some row → HasTy P f.type row) ∧ RowRel pub parts.flatten (cs.drop o) := by
  intro fs
  induction fs with
  | nil =>
    intro o xs hc _ _ _
    simp only [contig, beq_iff_eq] at hc
    refine ⟨by omega, [], rfl, fun i f row h => by simp at h, ?_⟩
    rw [List.drop_eq_nil_of_le (by omega)]; exact .nil
  | cons f r ih2 =>
    intro o xs hc ha hm hw
    simp only [contig, Bool.and_eq_true, beq_iff_eq] at hc
    simp only [List.all_cons, Bool.and_eq_true] at ha
    obtain ⟨ho, hc⟩ := hc
    rw [List.mapM_cons] at hm
    cases hx : DataW.trod enc P w 0 spare held fuel f.type ((cs.drop f.offset).take (P.cellsOf f.type)) with
    | none => rw [hx] at hm; simp at hm
    | some x =>
      cases hxs : (r.mapM fun f => DataW.trod enc P w 0 spare held fuel f.type ((cs.drop f.offset).take (P.cellsOf f.type))) with
      | none => rw [hx, hxs] at hm; simp at hm
      | some ys =>
        rw [hx, hxs] at hm
        obtain rfl : x :: ys = xs := by simpa using hm
        simp only [List.map_cons, DataW.weightsEach, List.mem_append] at hw
        obtain ⟨h1, parts, h2, h3, h4⟩ := ih2 _ ys hc ha.2 hxs fun n hn => hw n (.inr hn)
        obtain ⟨row, g1, g2⟩ := ih _ _ _ ha.1 hx fun n hn => hw n (.inl hn)
        refine ⟨by omega, row :: parts, by simp [h2], fun i f' row' hf hr => ?_, ?_⟩
        · cases i with
          | zero => simp at hf hr; subst hf hr; exact g1
          | succ i => exact h3 i f' row' (by simpa using hf) (by simpa using hr)
        · rw [List.flatten_cons]
          have hsplit : cs.drop o = (cs.drop o).take (P.cellsOf f.type) ++ cs.drop (o + P.cellsOf f.type) := by
            rw [← List.drop_drop, List.take_append_drop]
          rw [hsplit, ← ho]
          rw [← ho] at h4
          exact g2.append h4

theorem elems_rel {fuel : Nat} {cs : List Value} {pub : PHeap} {e : TypeId} (hin : S.contains e = true)
    (ih : ∀ (t : TypeId) (cs : List Value) (x : DataW H × List MemPlace), S.contains t = true → DataW.trod enc P w 0 spare held fuel t cs = some x → (∀ n ∈ DataW.weights P t x.1, n ≤ reachBytes) → ∃ row, HasTy P t row ∧ RowRel pub row cs) :
    ∀ (k i : Nat) (xs : List (DataW H × List MemPlace)), cs.length = (i + k) * P.cellsOf e →
      ((List.range' i k).mapM fun i => DataW.trod enc P w 0 spare held fuel e ((cs.drop (i * P.cellsOf e)).take (P.cellsOf e))) = some xs → (∀ n ∈ DataW.weightsAll P e (xs.map (·.1)), n ≤ reachBytes) →
      ∃ parts : List (List PV), parts.length = k ∧ (∀ row ∈ parts, HasTy P e row) ∧ RowRel pub parts.flatten (cs.drop (i * P.cellsOf e)) := by
  intro k
  induction k with
  | zero =>
    intro i xs hc _ _
    refine ⟨[], rfl, by simp, ?_⟩
    rw [List.drop_eq_nil_of_le (by rw [hc]; exact Nat.le_refl _)]; exact .nil
  | succ k ih2 =>
    intro i xs hc hm hw
    rw [List.range'_succ, List.mapM_cons] at hm
    cases hx : DataW.trod enc P w 0 spare held fuel e ((cs.drop (i * P.cellsOf e)).take (P.cellsOf e)) with
    | none => rw [hx] at hm; simp at hm
    | some x =>
      cases hxs : ((List.range' (i + 1) k).mapM fun i => DataW.trod enc P w 0 spare held fuel e ((cs.drop (i * P.cellsOf e)).take (P.cellsOf e))) with
      | none => rw [hx, hxs] at hm; simp at hm
      | some ys =>
        rw [hx, hxs] at hm
        obtain rfl : x :: ys = xs := by simpa using hm
        simp only [List.map_cons, DataW.weightsAll, List.mem_append] at hw
        obtain ⟨parts, h2, h3, h4⟩ := ih2 (i + 1) ys (by rw [hc]; congr 1; omega) hxs fun n hn => hw n (.inr hn)
        obtain ⟨row, g1, g2⟩ := ih _ _ _ hin hx fun n hn => hw n (.inl hn)
        refine ⟨row :: parts, by simp [h2], fun row' hr => ?_, ?_⟩
        · rcases List.mem_cons.1 hr with rfl | hr
          · exact g1
          · exact h3 _ hr
        · rw [List.flatten_cons]
          have hsplit : cs.drop (i * P.cellsOf e) = (cs.drop (i * P.cellsOf e)).take (P.cellsOf e) ++ cs.drop ((i + 1) * P.cellsOf e) := by
            rw [Nat.add_mul, Nat.one_mul, ← List.drop_drop, List.take_append_drop]
          rw [hsplit]
          exact g2.append h4

def heapOf (w : World) : PHeap := fun b => w.heap[b]?

theorem cell_block {w : World} {a : Addr} {c : Value} (h : w.cell? a = some c) : a.spot = none ∧ ∃ cs ty fr, w.heap[a.block]? = some (.cells cs ty fr) ∧ cs[a.off]? = some c := by
  unfold World.cell? at h
  split at h
  · rename_i cs ty fr hh
    split at h
    · cases h
    · rename_i hs; exact ⟨by simpa using hs, cs, ty, fr, hh, h⟩
  · cases h

theorem weightsAll_mem {H : Type} {P : Program} {e : TypeId} : ∀ {l : List (DataW H)} {d : DataW H} {n : Nat}, d ∈ l → n ∈ DataW.weights P e d → n ∈ DataW.weightsAll P e l
  | a :: r, d, n, h, hn => by
    simp only [DataW.weightsAll, List.mem_append]
    rcases List.mem_cons.1 h with rfl | h
    · exact .inl hn
    · exact .inr (weightsAll_mem h hn)
theorem trod_rel (hS : ∀ t, S.contains t = true → tyOK P S t = true) : ∀ (fuel : Nat) (t : TypeId) (cs : List Value) (x : DataW H × List MemPlace), S.contains t = true →
    DataW.trod enc P w 0 spare held fuel t cs = some x → (∀ n ∈ DataW.weights P t x.1, n ≤ reachBytes) → ∃ row, HasTy P t row ∧ RowRel (heapOf w) row cs := by
  intro fuel
  induction fuel with
  | zero => intro t cs x _ h; simp [DataW.trod] at h
  | succ fuel ih =>
    intro t cs x hin h hw
    have hok := hS t hin
    unfold tyOK at hok
    unfold DataW.trod at h
    split at hok
    · rename_i hu
      rw [hu] at h
      split at h <;> first | (cases h; done) | skip
      all_goals first | (rename_i heq; cases heq; done) | skip
      exact ⟨_, .bool hu, .one .bool⟩
    · rename_i k hu
      rw [hu] at h
      split at h <;> first | (cases h; done) | skip
      all_goals first | (rename_i heq; cases heq; done) | skip
      rename_i heq; cases heq
      split at h
      · rename_i hk; obtain ⟨rfl, hwf⟩ := hk; exact ⟨_, .int hu hwf, .one .int⟩
      · cases h
    · rename_i hu
      rw [hu] at h
      split at h <;> first | (cases h; done) | skip
      all_goals first | (rename_i heq; cases heq; done) | skip
      split at h
      · rename_i s hs
        cases h
        exact ⟨_, .str hu hs (by simpa [DataW.weights] using hw), .one (.str hs)⟩
      · cases h
    · rename_i e hu
      rw [hu] at h
      simp only [Bool.and_eq_true, decide_eq_true_eq] at hok
      split at h <;> first | (cases h; done) | skip
      all_goals first | (rename_i heq; cases heq; done) | skip
      · exact ⟨[.list []], .slice hu (fun row hr => by cases hr) (by simp), .one (.list0 (Nat.zero_le _))⟩
      · rename_i e' a len cap heq
        cases heq
        simp only at h
        split at h
        · rename_i hc
          obtain ⟨_, hlc, hcm⟩ := hc
          obtain ⟨elems, hm, h⟩ := Option.bind_eq_some_iff.1 h
          obtain ⟨rest, hrest, rfl⟩ := Option.map_eq_some_iff.1 h
          simp only [DataW.weights, hu, List.mem_cons, List.mem_append] at hw
          by_cases h0 : len = 0
          · subst h0
            exact ⟨[.list []], .slice hu (fun row hr => by cases hr) (by simp), .one (.list0 hcm)⟩
          · have hel : ∀ i, i < len → ∃ row : List PV, HasTy P e row ∧ ∃ ec : List Value, ec.length = P.cellsOf e ∧ (∀ j, j < P.cellsOf e → w.cell? ((a.add (i * P.cellsOf e)).add j) = ec[j]?) ∧ RowRel (heapOf w) row ec := by
              intro i hi
              have hx := mapM_some_get hm i i (by simp [hi])
              have hl := mapM_some_length hm
              simp only [List.length_range] at hl
              rw [List.getElem?_eq_getElem (by omega)] at hx
              obtain ⟨ec, h1, h2⟩ := Option.bind_eq_some_iff.1 hx
              obtain ⟨_, h3, h4⟩ := World.cells?_some h1
              obtain ⟨row, g1, g2⟩ := ih e ec _ hok.1 h2 fun n hn => hw n (.inr (.inl (weightsAll_mem (List.mem_map.2 ⟨_, List.getElem_mem _, rfl⟩) hn)))
              exact ⟨row, g1, ec, h3, h4, g2⟩
            obtain ⟨rows, hrl, hrp⟩ := rows_of _ len hel
            -- the block
            have h00 : w.cell? ((a.add (0 * P.cellsOf e)).add 0) = w.cell? a := by simp [Addr.add]
            obtain ⟨_, _, ec0, hec0, hcell0, _⟩ := hel 0 (by omega)
            have hc0 : w.cell? a = some (ec0[0]'(by omega)) := by
              rw [← h00, hcell0 0 hok.2]; exact List.getElem?_eq_getElem _
            obtain ⟨hsp, arr, ty, fr, hblk, _⟩ := cell_block hc0
            obtain ⟨b, o, sp⟩ := a
            simp only at hsp hblk
            subst hsp
            have hcellat : ∀ i, i < len → ∀ j, j < P.cellsOf e → w.cell? (((⟨b, o, none⟩ : Addr).add (i * P.cellsOf e)).add j) = arr[o + i * P.cellsOf e + j]? := by
              intro i _ j _
              rw [Addr.add_at, Addr.add_at, cell_at hblk]
            have hsz : o + rows.length * P.cellsOf e ≤ arr.size := by
              obtain ⟨_, _, ec, hec, hcell, _⟩ := hel (len - 1) (by omega)
              have h1 := hcell (P.cellsOf e - 1) (by omega)
              rw [hcellat (len - 1) (by omega) _ (by omega), List.getElem?_eq_getElem (by omega)] at h1
              have h2 : o + (len - 1) * P.cellsOf e + (P.cellsOf e - 1) < arr.size := by
                rcases Nat.lt_or_ge (o + (len - 1) * P.cellsOf e + (P.cellsOf e - 1)) arr.size with h | h
                · exact h
                · rw [Array.getElem?_eq_none h] at h1; cases h1
              rw [hrl]
              have h3 : len * P.cellsOf e = (len - 1) * P.cellsOf e + P.cellsOf e := by
                rw [← Nat.succ_mul]; congr 1; omega
              omega
            refine ⟨[.list rows], .slice hu (fun row hr => ?_) ?_, .one ?_⟩
            rotate_left
            · have h1 := hw _ (.inl rfl)
              have hl := mapM_some_length hm
              simp only [List.length_map, List.length_range] at h1 hl
              rw [hrl, ← hl]
              exact Nat.le_trans (Nat.mul_le_mul_right _ (Nat.le_add_right _ _)) h1
            rotate_left
            · obtain ⟨i, hi⟩ := List.mem_iff_getElem?.1 hr
              exact (hrp i row hi).1
            · have key : Rel (heapOf w) noSig (.list rows) (.slice (some ⟨b, o, none⟩) rows.length cap) := by
                refine .list (esz := P.cellsOf e) hblk (by omega) hcm ?_ hsz ?_
                · intro r row hr
                  obtain ⟨_, ec, h1, _, h3⟩ := hrp r row hr
                  rw [h3.1, h1]
                · intro r row j v c hr hj hcc
                  have hrlt := lt_of_getElem? hr
                  obtain ⟨_, ec, h1, h2, h3⟩ := hrp r row hr
                  have hjl := lt_of_getElem? hj
                  have h4 := h3.1
                  have h5 := h2 j (by omega)
                  rw [hcellat r (by omega) j (by omega), hcc] at h5
                  exact h3.2 j v c hj h5.symm
              rw [hrl] at key
              exact key
        · cases h
    · rename_i fs hu
      rw [hu] at h
      simp only [Bool.and_eq_true] at hok
      have h' : (if cs.length = P.cellsOf t then (fs.toList.mapM fun f => DataW.trod enc P w 0 spare held fuel f.type ((cs.drop f.offset).take (P.cellsOf f.type))).map fun xs => ((DataW.agg (xs.map (·.1)) : DataW H), xs.flatMap (·.2)) else none) = some x := by
        split at h
        all_goals first | (rename_i heq; cases heq; exact h) | (rename_i heq; cases heq; done) | (exfalso; simp only [Option.some.injEq, reduceCtorEq] at *; done) | (simp_all; done)
      split at h'
      · rename_i hlen
        obtain ⟨xs, hm, rfl⟩ := Option.map_eq_some_iff.1 h'
        simp only [DataW.weights, hu] at hw
        obtain ⟨_, parts, h1, h2, h3⟩ := fields_rel hlen ih fs.toList 0 xs hok.1 hok.2 hm hw
        refine ⟨parts.flatten, .struct hu (by simpa using h1) (fun i f row hf hr => h2 i f row (by simpa using hf) hr), by simpa using h3⟩
      · cases h'
    · rename_i n e hu
      rw [hu] at h
      simp only [Bool.and_eq_true, beq_iff_eq] at hok
      have h' : (if cs.length = P.cellsOf t then ((List.range n).mapM fun i => DataW.trod enc P w 0 spare held fuel e ((cs.drop (i * P.cellsOf e)).take (P.cellsOf e))).map fun xs => ((DataW.agg (xs.map (·.1)) : DataW H), xs.flatMap (·.2)) else none) = some x := by
        split at h
        all_goals first | (rename_i heq; cases heq; exact h) | (rename_i heq; cases heq; done) | (exfalso; simp only [Option.some.injEq, reduceCtorEq] at *; done) | (simp_all; done)
      split at h'
      · rename_i hlen
        obtain ⟨xs, hm, rfl⟩ := Option.map_eq_some_iff.1 h'
        rw [List.range_eq_range'] at hm
        simp only [DataW.weights, hu] at hw
        obtain ⟨parts, h1, h2, h3⟩ := elems_rel hok.1 ih n 0 xs (by rw [hlen, ← hok.2]; congr 1; omega) hm hw
        refine ⟨parts.flatten, .array hu h1 h2, by simpa using h3⟩
      · cases h'
    · cases hok
end

section
variable {P : Program} {t : TypeId} {row : List PV}
theorem HasTy.int' {k : IntKind} (hu : P.underlying t = some (.int k)) (h : HasTy P t row) : ∃ n, row = [.int k n] ∧ (Lit.int k n).wf = true := by
  cases h with
  | bool h1 => rw [h1] at hu; cases hu
  | int h1 wf => rw [h1] at hu; cases hu; exact ⟨_, rfl, wf⟩
  | str h1 hs hb => rw [h1] at hu; cases hu
  | slice h1 hr hb => rw [h1] at hu; cases hu
  | struct h1 hl hp => rw [h1] at hu; cases hu
  | array h1 hl hp => rw [h1] at hu; cases hu
theorem HasTy.str' (hu : P.underlying t = some .string) (h : HasTy P t row) : ∃ s, row = [.str s] ∧ s.size ≤ maxLen := by
  cases h with
  | bool h1 => rw [h1] at hu; cases hu
  | int h1 wf => rw [h1] at hu; cases hu
  | str h1 hs hb => rw [h1] at hu; cases hu; exact ⟨_, rfl, hs⟩
  | slice h1 hr hb => rw [h1] at hu; cases hu
  | struct h1 hl hp => rw [h1] at hu; cases hu
  | array h1 hl hp => rw [h1] at hu; cases hu
theorem HasTy.bool' (hu : P.underlying t = some .bool) (h : HasTy P t row) : ∃ b, row = [.bool b] := by
  cases h with
  | bool h1 => rw [h1] at hu; cases hu; exact ⟨_, rfl⟩
  | int h1 wf => rw [h1] at hu; cases hu
  | str h1 hs hb => rw [h1] at hu; cases hu
  | slice h1 hr hb => rw [h1] at hu; cases hu
  | struct h1 hl hp => rw [h1] at hu; cases hu
  | array h1 hl hp => rw [h1] at hu; cases hu
theorem HasTy.slice' {e : TypeId} (hu : P.underlying t = some (.slice e)) (h : HasTy P t row) : ∃ rows, row = [.list rows] ∧ ∀ r ∈ rows, HasTy P e r := by
  cases h with
  | bool h1 => rw [h1] at hu; cases hu
  | int h1 wf => rw [h1] at hu; cases hu
  | str h1 hs hb => rw [h1] at hu; cases hu
  | slice h1 hr hb => rw [h1] at hu; cases hu; exact ⟨_, rfl, hr⟩
  | struct h1 hl hp => rw [h1] at hu; cases hu
  | array h1 hl hp => rw [h1] at hu; cases hu
theorem HasTy.sliceB {e : TypeId} (hu : P.underlying t = some (.slice e)) (h : HasTy P t row) : ∃ rows, row = [.list rows] ∧ (∀ r ∈ rows, HasTy P e r) ∧ rows.length * P.bytesOf e ≤ reachBytes := by
  cases h with
  | slice h1 hr hb => rw [h1] at hu; cases hu; exact ⟨_, rfl, hr, hb⟩
  | bool h1 => rw [h1] at hu; cases hu
  | int h1 wf => rw [h1] at hu; cases hu
  | str h1 hs hb => rw [h1] at hu; cases hu
  | struct h1 hl hp => rw [h1] at hu; cases hu
  | array h1 hl hp => rw [h1] at hu; cases hu
theorem HasTy.array' {n : Nat} {e : TypeId} (hu : P.underlying t = some (.array n e)) (h : HasTy P t row) : ∃ parts : List (List PV), row = parts.flatten ∧ parts.length = n ∧ ∀ r ∈ parts, HasTy P e r := by
  cases h with
  | bool h1 => rw [h1] at hu; cases hu
  | int h1 wf => rw [h1] at hu; cases hu
  | str h1 hs hb => rw [h1] at hu; cases hu
  | slice h1 hr hb => rw [h1] at hu; cases hu
  | struct h1 hl hp => rw [h1] at hu; cases hu
  | array h1 hl hp => rw [h1] at hu; cases hu; exact ⟨_, rfl, hl, hp⟩
theorem HasTy.struct' {ti : TI} {l : List (Nat × Nat × Nat × Bool)} (ht : tinfo P t = some ti) (hk : ti.kind = .struct l) (h : HasTy P t row) : ∃ parts : List (List PV), row = parts.flatten ∧ parts.length = l.length ∧
    ∀ (i : Nat) (x : Nat × Nat × Nat × Bool) (r : List PV), l[i]? = some x → parts[i]? = some r → HasTy P x.2.1 r := by
  obtain ⟨i, d, h1, h2, rfl⟩ := tinfo_some ht
  obtain ⟨fields, rfl, rfl, _⟩ := tkOf_struct hk
  cases h with
  | bool g => rw [g] at h2; cases h2
  | int g wf => rw [g] at h2; cases h2
  | str g hs hb => rw [g] at h2; cases h2
  | slice g hr hb => rw [g] at h2; cases h2
  | array g hl hp => rw [g] at h2; cases h2
  | struct g hl hp =>
    rw [g] at h2; cases h2
    refine ⟨_, rfl, by simpa using hl, fun i x r hx hr => ?_⟩
    rw [List.getElem?_map, Option.map_eq_some_iff] at hx
    obtain ⟨f, hf, rfl⟩ := hx
    exact hp i f r (by simpa using hf) hr
end
end Go.Pv
namespace Go.Pv
open Go Go.RowKit Go.ChangeShapes Go.WideShapes Go.ChangeAt
set_option linter.unusedVariables false
set_option linter.unusedSimpArgs false

def argOf (P : Program) (t : TypeId) (row : List PV) : PV := if aggOf P t then .agg row else row.headD .any
def AllTy (P : Program) : List TypeId → List (List PV) → Prop
  | [], [] => True
  | t :: ts, r :: rs => HasTy P t r ∧ AllTy P ts rs
  | _, _ => False
def argsOf (P : Program) : List TypeId → List (List PV) → List PV
  | t :: ts, r :: rs => argOf P t r :: argsOf P ts rs
  | _, _ => []

section
variable {H : Type} {enc : TypeId × Value → H} {P : Program} {S : List TypeId} {w : World} {spare : Nat → Bool} {held : Bool}

theorem arg_rel (hS : ∀ t, S.contains t = true → tyOK P S t = true) {base : Nat} {t : TypeId} {v : Value} {d : DataW H} {ps : List MemPlace} (ht : S.contains t = true)
    (hok : Value.okWide P w .any base t v) (h : DataW.Trod enc P w 0 spare held t v d ps) (hz : ∀ n ∈ DataW.weights P t d, n ≤ reachBytes) : ∃ row, HasTy P t row ∧ Rel (heapOf w) noSig (argOf P t row) v := by
  obtain ⟨fuel, h⟩ := h
  obtain ⟨row, h1, h2⟩ := trod_rel hS fuel t _ _ ht h hz
  refine ⟨row, h1, ?_⟩
  have htO := hS t ht
  have plain : aggOf P t = false → v.cells = #[v] → Rel (heapOf w) noSig (argOf P t row) v := by
    intro ha hc
    rw [hc] at h2
    obtain ⟨h3, h4⟩ := h2
    simp only [List.length_cons, List.length_nil] at h3
    obtain ⟨x, rfl⟩ := List.length_eq_one_iff.1 h3
    unfold argOf; rw [ha]
    exact h4 0 x v rfl rfl
  unfold Value.okWide at hok
  unfold tyOK at htO
  unfold aggOf at plain
  split at htO
  · rename_i hu
    rw [hu] at hok plain
    simp only [Cell.okWide, Cell.ok, hu] at hok
    cases v <;> first | exact hok.elim | exact plain rfl rfl
  · rename_i k hu
    rw [hu] at hok plain
    simp only [Cell.okWide, Cell.ok, hu] at hok
    cases v <;> first | exact hok.elim | exact plain rfl rfl
  · rename_i hu
    rw [hu] at hok plain
    simp only [Cell.okWide, Cell.ok, hu] at hok
    cases v <;> first | exact hok.elim | exact plain rfl rfl
  · rename_i e hu
    rw [hu] at hok plain
    simp only [Cell.okWide, Cell.ok, hu] at hok
    cases v <;> first | exact hok.elim | exact plain rfl rfl
  · rename_i fs hu
    rw [hu] at hok
    obtain ⟨cs, rfl, _, _⟩ := hok
    have : argOf P t row = .agg row := by unfold argOf aggOf; rw [hu]; rfl
    rw [this]
    refine .agg (by have := h2.1; simp [Value.cells] at this; omega) fun j x c hx hc => h2.2 j x c hx (by simpa [Value.cells] using hc)
  · rename_i n e hu
    rw [hu] at hok
    obtain ⟨cs, rfl, _, _⟩ := hok
    have : argOf P t row = .agg row := by unfold argOf aggOf; rw [hu]; rfl
    rw [this]
    refine .agg (by have := h2.1; simp [Value.cells] at this; omega) fun j x c hx hc => h2.2 j x c hx (by simpa [Value.cells] using hc)
  · cases htO

theorem args_rel (hS : ∀ t, S.contains t = true → tyOK P S t = true) {base : Nat} : ∀ (ts : List TypeId) (vs : List Value) (ds : List (DataW H)) (ps : List MemPlace), (ts.all fun t => S.contains t) = true →
    (∀ (j : Nat) t v, ts[j]? = some t → vs[j]? = some v → Value.okWide P w .any base t v) → DataW.TrodAll enc P w 0 spare held ts vs ds ps → (∀ n ∈ DataW.weightsEach P ts ds, n ≤ reachBytes) →
    ∃ rows, AllTy P ts rows ∧ RowRel (heapOf w) (argsOf P ts rows) vs ∧ ds.length = ts.length := by
  intro ts
  induction ts with
  | nil =>
    intro vs ds ps _ _ h _
    cases vs <;> cases ds <;> first | exact h.elim | skip
    exact ⟨[], trivial, .nil, rfl⟩
  | cons t ts ih =>
    intro vs ds ps hin hok h hz
    cases vs with
    | nil => exact h.elim
    | cons v vs =>
      cases ds with
      | nil => exact h.elim
      | cons d ds =>
        obtain ⟨p, q, h1, h2, _⟩ := h
        simp only [List.all_cons, Bool.and_eq_true] at hin
        simp only [DataW.weightsEach, List.mem_append] at hz
        obtain ⟨row, g1, g2⟩ := arg_rel hS hin.1 (hok 0 t v rfl rfl) h1 fun n hn => hz n (.inl hn)
        obtain ⟨rows, g3, g4, g5⟩ := ih vs ds q hin.2 (fun j t v a b => hok (j + 1) t v (by simpa using a) (by simpa using b)) h2 fun n hn => hz n (.inr hn)
        refine ⟨row :: rows, ⟨g1, g3⟩, ?_, by simp [g5]⟩
        exact (RowRel.one g2).append g4

theorem args_again {W W' : World} (hl : laidOutB P = true) : ∀ (ts : List TypeId) (vs : List Value) (ds : List (DataW H)) (ps : List MemPlace), (ts.all fun t => P.readableRec t && decide (t < P.types.size)) = true →
    DataW.TrodAll enc P W 0 (fun _ => true) true ts vs ds ps → Below W.heap.size W W' → (∀ x ∈ ps, x.block < W.heap.size) → DataW.TrodAll enc P W' 0 (fun b => decide (b < W.heap.size)) true ts vs ds ps := by
  intro ts
  induction ts with
  | nil => intro vs ds ps _ h _ _; cases vs <;> cases ds <;> first | exact h.elim | exact h
  | cons t ts ih =>
    intro vs ds ps hin h hb hlt
    cases vs with
    | nil => exact h.elim
    | cons v vs =>
      cases ds with
      | nil => exact h.elim
      | cons d ds =>
        obtain ⟨p, q, h1, h2, rfl⟩ := h
        simp only [List.all_cons, Bool.and_eq_true, decide_eq_true_eq] at hin
        exact ⟨p, q, Below.trod hl hin.1.1 hin.1.2 h1 hb (fun x hx => hlt x (by simp [hx])), ih vs ds q hin.2 h2 hb (fun x hx => hlt x (by simp [hx])), rfl⟩

theorem SR.below {pub pub' : PHeap} {σ' : Sig} {s' : Store} {w' : World} (h : SR ⟨w, pub, noSig, dom [] noSig⟩ pub' σ' s' w') : Below w.heap.size w w' :=
  ⟨h.os, h.tape, h.output, h.size, fun k hk => (h.frame k hk (dom_nil _ _)).1⟩

theorem law_contract {f : FuncId} {fn : Func} {s : ChangeSpec} {tb : TypeId} (S : List TypeId) (hS : (S.all fun t => tyOK P S t) = true) (hl : laidOutB P = true)
    (hp1 : (fn.params.toList.all fun t => S.contains t) = true) (hp2 : (fn.params.toList.all fun t => P.readableRec t && decide (t < P.types.size)) = true)
    (hv : s.vars = []) (hr : fn.resultTypes = #[tb]) (hb : P.underlying tb = some .bool)
    (hs : ∀ ds : List (DataW H), ds.length = fn.params.toList.length → s.fn H ds = { results := [.lit (.bool true)], args := ds })
    (h : ∀ rows : List (List PV), AllTy P fn.params.toList rows → CallOK P f (argsOf P fn.params.toList rows) [] (.bool true) [])
    (W : World) (base : Nat) (args : Array Value) (ds gs : List (DataW H)) (before : List MemPlace) (hval : ∀ (j : Nat) t v, fn.params[j]? = some t → args[j]? = some v → Value.okWide P W .any base t v)
    (hW : DataW.Whole enc P fn.params.toList s.vars false W args.toList ds gs before)
    (hz : (DataW.weightsEach P (fn.params.toList ++ s.plain.varTypes P) (ds ++ gs)).all (· ≤ reachBytes) = true) :
    Calls P f args W fun e W' => ∃ v, e = .returned v ∧ s.post enc P fn false true false false W args v W' := by
  have hW' := hW
  obtain ⟨p, q, hA, hV, rfl, hfz, hnd⟩ := hW
  rw [hv] at hV
  have hgq : gs = [] ∧ q = [] := by cases gs <;> first | exact ⟨rfl, hV⟩ | exact hV.elim
  obtain ⟨rfl, rfl⟩ := hgq
  have hS' : ∀ t, S.contains t = true → tyOK P S t = true := fun t ht => List.all_eq_true.1 hS t (by simpa using ht)
  have hzz : ∀ n ∈ DataW.weightsEach P fn.params.toList ds, n ≤ reachBytes := by
    intro n hn
    have hvt : s.plain.varTypes P = [] := by simp [DataSpec.varTypes, ChangeSpec.plain, hv]
    rw [hvt, List.append_nil, List.append_nil] at hz
    simpa using List.all_eq_true.1 hz n hn
  obtain ⟨rows, h1, h2, h3⟩ := args_rel hS' fn.params.toList args.toList ds p hp1 (fun j t v a b => hval j t v (by simpa using a) (by simpa using b)) hA hzz
  refine Calls.mono (h rows h1 (heapOf W) noSig W args (.bare fun b o hb => hb) ⟨by have := h2.1; simpa using this.symm, fun j v c hv hc => h2.2 j v c hv (by simpa using hc)⟩) ?_
  rintro e W' ⟨cv, pub', σ', rfl, hs', hrel⟩
  obtain rfl := rel_bool hrel
  have hbel := hs'.below
  refine ⟨_, rfl, ds, [], _, [], p, [], hW', ?_, ?_, ?_, hbel.frame _, fun h => by cases h⟩
  · rw [List.append_nil, hs ds h3, hr]
    exact trodAll_cons_mk (shut_bool hb _) trodAll_mk0
  · rw [List.append_nil, hs ds h3]
    exact args_again hl _ _ _ _ hp2 hA hbel (fun x hx => hW'.lt x (by simpa using hx))
  · rw [List.append_nil, hs ds h3, hv]; rfl
end

section
variable {P : Program} {t : TypeId} {ti : TI}
theorem fields_of {l : List (Nat × Nat × Nat × Bool)} (ht : tinfo P t = some ti) (hk : ti.kind = .struct l) : ∃ fs : Array Field, P.underlying t = some (.struct fs) ∧ fs.toList.map (·.type) = l.map (·.2.1) := by
  obtain ⟨i, d, h1, h2, rfl⟩ := tinfo_some ht
  obtain ⟨fields, rfl, rfl, _⟩ := tkOf_struct hk
  exact ⟨fields, h2, by simp⟩
theorem und_slice {e esz by' : Nat} {ag : Bool} {z : Option (List PV)} (ht : tinfo P t = some ti) (hk : ti.kind = .slice e esz by' ag z) : P.underlying t = some (.slice e) := by
  obtain ⟨i, d, h1, h2, rfl⟩ := tinfo_some ht
  obtain ⟨rfl, _⟩ := tkOf_slice hk; exact h2
theorem und_array {n e esz : Nat} {ag : Bool} (ht : tinfo P t = some ti) (hk : ti.kind = .array n e esz ag) : P.underlying t = some (.array n e) := by
  obtain ⟨i, d, h1, h2, rfl⟩ := tinfo_some ht
  obtain ⟨rfl, _⟩ := tkOf_array hk; exact h2
theorem und_int {k : IntKind} (ht : tinfo P t = some ti) (hk : ti.kind = .int k) : P.underlying t = some (.int k) := by
  obtain ⟨i, d, h1, h2, rfl⟩ := tinfo_some ht
  obtain rfl := tkOf_int hk; exact h2
theorem und_bool (ht : tinfo P t = some ti) (hk : ti.kind = .bool) : P.underlying t = some .bool := by
  obtain ⟨i, d, h1, h2, rfl⟩ := tinfo_some ht
  obtain rfl := tkOf_bool hk; exact h2
theorem und_string (ht : tinfo P t = some ti) (hk : ti.kind = .string) : P.underlying t = some .string := by
  obtain ⟨i, d, h1, h2, rfl⟩ := tinfo_some ht
  obtain rfl := tkOf_string hk; exact h2
end
theorem list_of {α : Type} (g : α → List PV) : ∀ (rows : List (List PV)), (∀ row ∈ rows, ∃ x, row = g x) → ∃ l : List α, rows = l.map g := by
  intro rows
  induction rows with
  | nil => intro _; exact ⟨[], rfl⟩
  | cons r rs ih =>
    intro h
    obtain ⟨x, rfl⟩ := h r (by simp)
    obtain ⟨l, rfl⟩ := ih fun row hr => h row (by simp [hr])
    exact ⟨x :: l, rfl⟩
theorem three_of {α : Type} (l : List α) (h : l.length = 3) : ∃ a b c, l = [a, b, c] := by
  match l, h with
  | [a, b, c], _ => exact ⟨a, b, c, rfl⟩
theorem two_of {α : Type} (l : List α) (h : l.length = 2) : ∃ a b, l = [a, b] := by
  match l, h with
  | [a, b], _ => exact ⟨a, b, rfl⟩
theorem argOf_agg {P : Program} {t : TypeId} {ti : TI} {row : List PV} (ht : tinfo P t = some ti) (ha : ti.agg = true) : argOf P t row = .agg row := by
  obtain ⟨i, d, h1, h2, rfl⟩ := tinfo_some ht
  unfold argOf; rw [if_pos ha]
theorem argOf_one {P : Program} {t : TypeId} {ti : TI} {v : PV} (ht : tinfo P t = some ti) (ha : ti.agg = false) : argOf P t [v] = v := by
  obtain ⟨i, d, h1, h2, rfl⟩ := tinfo_some ht
  have ha' : aggOf P t = false := ha
  unfold argOf; rw [ha']; rfl
theorem allTy_cons {P : Program} {t : TypeId} {ts : List TypeId} {rows : List (List PV)} (h : AllTy P (t :: ts) rows) : ∃ r rs, rows = r :: rs ∧ HasTy P t r ∧ AllTy P ts rs := by
  cases rows with
  | nil => exact h.elim
  | cons r rs => exact ⟨r, rs, rfl, h.1, h.2⟩
theorem allTy_nil {P : Program} {rows : List (List PV)} (h : AllTy P [] rows) : rows = [] := by
  cases rows with
  | nil => rfl
  | cons r rs => exact h.elim
end Go.Pv
namespace Go.Proofs.Ytnoklmapofogeaa
open Go Go.Pv
set_option linter.unusedVariables false
set_option linter.unusedSimpArgs false

theorem int_of {row : List PV} (h : HasTy Try.prog 3 row) : ∃ n, row = [.int .i64 n] ∧ -9223372036854775808 ≤ n ∧ n ≤ 9223372036854775807 := by
  obtain ⟨n, rfl, hw⟩ := h.int' (und_int ty3 rfl)
  exact ⟨n, rfl, bounds_i64 hw⟩
theorem str_of {row : List PV} (h : HasTy Try.prog 9 row) : ∃ s, row = [.str s] := by
  obtain ⟨s, rfl, _⟩ := h.str' (und_string ty9 rfl)
  exact ⟨s, rfl⟩

theorem fm_aux {t : TypeId} {row : List PV} (h : HasTy Try.prog t row) : (t = 24 → ∃ f, row = frm f) ∧ (t = 22 → ∃ l : List Fm, row = [.list (l.map frm)]) := by
  have hs := fields_of ty24 rfl
  have hl := und_slice ty22 rfl
  obtain ⟨fs, hs, hf⟩ := hs
  induction h with
  | bool g => refine ⟨?_, ?_⟩ <;> rintro rfl <;> first | (rw [g] at hs; cases hs; done) | (rw [g] at hl; cases hl; done)
  | int g => refine ⟨?_, ?_⟩ <;> rintro rfl <;> first | (rw [g] at hs; cases hs; done) | (rw [g] at hl; cases hl; done)
  | str g => refine ⟨?_, ?_⟩ <;> rintro rfl <;> first | (rw [g] at hs; cases hs; done) | (rw [g] at hl; cases hl; done)
  | array g => refine ⟨?_, ?_⟩ <;> rintro rfl <;> first | (rw [g] at hs; cases hs; done) | (rw [g] at hl; cases hl; done)
  | slice g hr hb ih =>
    refine ⟨?_, ?_⟩
    · rintro rfl; rw [g] at hs; cases hs
    · rintro rfl; rw [g] at hl; cases hl
      obtain ⟨l, rfl⟩ := list_of frm _ fun row hrow => (ih row hrow).1 rfl
      exact ⟨l, rfl⟩
  | struct g hlen hp ih =>
    refine ⟨?_, ?_⟩
    · rintro rfl; rw [g] at hs; cases hs
      have h3 : fs.toList.length = 3 := by simpa using congrArg List.length hf
      obtain ⟨a, b, c, hfs⟩ := three_of _ h3
      rw [hfs] at hf
      simp only [List.map_cons, List.map_nil, List.cons.injEq, and_true] at hf
      obtain ⟨ha, hb, hc⟩ := hf
      have hg : ∀ i, fs[i]? = [a, b, c][i]? := fun i => by rw [← hfs, Array.getElem?_toList]
      obtain ⟨r0, r1, r2, rfl⟩ := three_of _ (hlen.trans (by simpa using h3))
      obtain ⟨n, rfl, _⟩ := int_of (by have := hp 0 a r0 (by rw [hg]; rfl) rfl; rw [ha] at this; exact this)
      obtain ⟨s, rfl⟩ := str_of (by have := hp 1 b r1 (by rw [hg]; rfl) rfl; rw [hb] at this; exact this)
      obtain ⟨l, rfl⟩ := (ih 2 c r2 (by rw [hg]; rfl) rfl).2 hc
      exact ⟨.mk n s l, by rw [frm_eq]; rfl⟩
    · rintro rfl; rw [g] at hl; cases hl
theorem fm_of {row : List PV} (h : HasTy Try.prog 24 row) : ∃ f, row = frm f := (fm_aux h).1 rfl

theorem bool_of {row : List PV} (h : HasTy Try.prog 4 row) : ∃ b, row = [.bool b] := by
  obtain ⟨b, rfl⟩ := h.bool' (und_bool ty4 rfl)
  exact ⟨b, rfl⟩
theorem strsB_of {row : List PV} (h : HasTy Try.prog 35 row) : ∃ l : List ByteArray, row = [.list (l.map strRow)] ∧ l.length * 16 ≤ 140737488351232 := by
  obtain ⟨rs, rfl, g2, hb⟩ := h.sliceB (und_slice ty35 rfl)
  rw [show Try.prog.bytesOf 9 = 16 by kernel_rfl] at hb
  obtain ⟨l, rfl⟩ := list_of strRow rs fun r hr => str_of (g2 r hr)
  exact ⟨l, rfl, by simpa [reachBytes] using hb⟩
end Go.Proofs.Ytnoklmapofogeaa
namespace Go.Proofs.Ytnoklmapofogeaa
open Go Go.Pv
set_option linter.unusedVariables false
set_option linter.unusedSimpArgs false

theorem fms_of {row : List PV} (h : HasTy Try.prog 22 row) : ∃ l : List Fm, row = [.list (l.map frm)] := (fm_aux h).2 rfl
theorem seq_of {row : List PV} (h : HasTy Try.prog 26 row) : ∃ l r : List Fm, row = [.list (l.map frm), .list (r.map frm)] := by
  obtain ⟨parts, rfl, h1, h2⟩ := h.struct' ty26 rfl
  obtain ⟨r0, r1, rfl⟩ := two_of _ h1
  obtain ⟨l, rfl⟩ := fms_of (h2 0 _ r0 rfl rfl)
  obtain ⟨r, rfl⟩ := fms_of (h2 1 _ r1 rfl rfl)
  exact ⟨l, r, rfl⟩
theorem four_of {α : Type} (l : List α) (h : l.length = 4) : ∃ a b c d, l = [a, b, c, d] := by
  match l, h with
  | [a, b, c, d], _ => exact ⟨a, b, c, d, rfl⟩
theorem pf_aux {t : TypeId} {row : List PV} (h : HasTy Try.prog t row) : (t = 29 → ∃ p, row = prf p) ∧ (t = 27 → ∃ l : List Pf, row = [.list (l.map prf)]) := by
  have hs := fields_of ty29 rfl
  have hl := und_slice ty27 rfl
  obtain ⟨fs, hs, hf⟩ := hs
  induction h with
  | bool g => refine ⟨?_, ?_⟩ <;> rintro rfl <;> first | (rw [g] at hs; cases hs; done) | (rw [g] at hl; cases hl; done)
  | int g => refine ⟨?_, ?_⟩ <;> rintro rfl <;> first | (rw [g] at hs; cases hs; done) | (rw [g] at hl; cases hl; done)
  | str g => refine ⟨?_, ?_⟩ <;> rintro rfl <;> first | (rw [g] at hs; cases hs; done) | (rw [g] at hl; cases hl; done)
  | array g => refine ⟨?_, ?_⟩ <;> rintro rfl <;> first | (rw [g] at hs; cases hs; done) | (rw [g] at hl; cases hl; done)
  | slice g hr hb ih =>
    refine ⟨?_, ?_⟩
    · rintro rfl; rw [g] at hs; cases hs
    · rintro rfl; rw [g] at hl; cases hl
      obtain ⟨l, rfl⟩ := list_of prf _ fun row hrow => (ih row hrow).1 rfl
      exact ⟨l, rfl⟩
  | struct g hlen hp ih =>
    refine ⟨?_, ?_⟩
    · rintro rfl; rw [g] at hs; cases hs
      have h4 : fs.toList.length = 4 := by simpa using congrArg List.length hf
      obtain ⟨a, b, c, d, hfs⟩ := four_of _ h4
      rw [hfs] at hf
      simp only [List.map_cons, List.map_nil, List.cons.injEq, and_true] at hf
      obtain ⟨ha, hb, hc, hd⟩ := hf
      have hg : ∀ i, fs[i]? = [a, b, c, d][i]? := fun i => by rw [← hfs, Array.getElem?_toList]
      obtain ⟨r0, r1, r2, r3, rfl⟩ := four_of _ (hlen.trans (by simpa using h4))
      obtain ⟨s, rfl⟩ := str_of (by have := hp 0 a r0 (by rw [hg]; rfl) rfl; rw [ha] at this; exact this)
      obtain ⟨f, rfl⟩ := fm_of (by have := hp 1 b r1 (by rw [hg]; rfl) rfl; rw [hb] at this; exact this)
      obtain ⟨l, r, rfl⟩ := seq_of (by have := hp 2 c r2 (by rw [hg]; rfl) rfl; rw [hc] at this; exact this)
      obtain ⟨ks, rfl⟩ := (ih 3 d r3 (by rw [hg]; rfl) rfl).2 hd
      exact ⟨.mk s f l r ks, by rw [prf_eq, frm_eq]; rfl⟩
    · rintro rfl; rw [g] at hl; cases hl
theorem pf_of {row : List PV} (h : HasTy Try.prog 29 row) : ∃ p, row = prf p := (pf_aux h).1 rfl
end Go.Proofs.Ytnoklmapofogeaa
namespace Go.Proofs.Ytnoklmapofogeaa
open Go Go.Pv
set_option linter.unusedVariables false
set_option linter.unusedSimpArgs false
set_option maxRecDepth 100000
set_option maxHeartbeats 4000000

def x26_T1 : XC := .seq (.reg [⟨some 55,.build 33 #[],none⟩,⟨none,.store 33 (.tmp 2) (.tmp 55),none⟩]) (.ret)
def x26_L0 : XC := .seq (.seq (.reg [⟨some 15,.move (.tmp 3),none⟩,⟨some 16,.fieldAddr 26 (.tmp 1) 0,none⟩,⟨some 17,.load 22 (.tmp 16),none⟩,⟨some 18,.call ⟨.builtin .len,#[.tmp 17],#[22]⟩,none⟩,⟨some 19,.fieldAddr 26 (.tmp 1) 1,none⟩,⟨some 20,.load 22 (.tmp 19),none⟩,⟨some 21,.call ⟨.builtin .len,#[.tmp 20],#[22]⟩,none⟩,⟨some 22,.binOp .add 3 (.tmp 18) (.tmp 21) 3,none⟩,⟨some 23,.binOp .lss 3 (.tmp 15) (.tmp 22) 3,none⟩]) (.cond (.tmp 23) (.skip) (.exit 0))) (.seq (.block 1 (.seq (.reg [⟨some 4,.alloc 24,none⟩]) (.seq (.seq (.reg [⟨some 26,.move (.tmp 3),none⟩,⟨some 27,.fieldAddr 26 (.tmp 1) 0,none⟩,⟨some 28,.load 22 (.tmp 27),none⟩,⟨some 29,.call ⟨.builtin .len,#[.tmp 28],#[22]⟩,none⟩,⟨some 30,.binOp .lss 3 (.tmp 26) (.tmp 29) 3,none⟩]) (.cond (.tmp 30) (.reg [⟨some 31,.fieldAddr 26 (.tmp 1) 0,none⟩,⟨some 32,.load 22 (.tmp 31),none⟩,⟨some 33,.move (.tmp 3),none⟩,⟨some 34,.indexAddr 22 (.tmp 32) (.tmp 33),none⟩,⟨some 35,.load 24 (.tmp 34),none⟩,⟨none,.store 24 (.tmp 4) (.tmp 35),none⟩]) (.reg [⟨some 36,.fieldAddr 26 (.tmp 1) 1,none⟩,⟨some 37,.load 22 (.tmp 36),none⟩,⟨some 38,.move (.tmp 3),none⟩,⟨some 39,.fieldAddr 26 (.tmp 1) 0,none⟩,⟨some 40,.load 22 (.tmp 39),none⟩,⟨some 41,.call ⟨.builtin .len,#[.tmp 40],#[22]⟩,none⟩,⟨some 42,.binOp .sub 3 (.tmp 38) (.tmp 41) 3,none⟩,⟨some 43,.indexAddr 22 (.tmp 37) (.tmp 42),none⟩,⟨some 44,.load 24 (.tmp 43),none⟩,⟨none,.store 24 (.tmp 4) (.tmp 44),none⟩]))) (.seq (.reg [⟨some 45,.load 24 (.tmp 4),none⟩,⟨some 46,.buildSlice 22 1 #[(0,.tmp 45)],none⟩,⟨some 47,.call ⟨.value (.func 21),#[.tmp 46],#[22]⟩,none⟩,⟨some 5,.alloc 33,none⟩,⟨none,.store 33 (.tmp 5) (.tmp 47),none⟩]) (.seq (.reg [⟨some 48,.fieldAddr 33 (.tmp 5) 0,none⟩,⟨some 49,.load 3 (.tmp 48),none⟩,⟨some 50,.binOp .neq 3 (.tmp 49) (.const (.int .i64 0)) 3,none⟩]) (.cond (.tmp 50) (.seq (.reg [⟨some 51,.fieldAddr 33 (.tmp 5) 0,none⟩,⟨some 52,.load 3 (.tmp 51),none⟩,⟨some 53,.move (.tmp 3),none⟩,⟨some 54,.call ⟨.value (.func 38),#[.tmp 52,.tmp 53],#[3,3]⟩,none⟩,⟨none,.store 33 (.tmp 2) (.tmp 54),none⟩]) (.ret)) (.skip))))))) (.reg [⟨some 24,.move (.tmp 3),none⟩,⟨some 25,.binOp .add 3 (.tmp 24) (.const (.int .i64 1)) 3,none⟩,⟨some 3,.assign (.tmp 25),none⟩]))
def x26 : XC := .seq (.reg [⟨some 1,.box 26 (.tmp 0),none⟩,⟨some 2,.alloc 33,none⟩]) (.seq (.seq (.reg [⟨some 6,.fieldAddr 26 (.tmp 1) 0,none⟩,⟨some 7,.load 22 (.tmp 6),none⟩,⟨some 8,.call ⟨.builtin .len,#[.tmp 7],#[22]⟩,none⟩,⟨some 9,.fieldAddr 26 (.tmp 1) 1,none⟩,⟨some 10,.load 22 (.tmp 9),none⟩,⟨some 11,.call ⟨.builtin .len,#[.tmp 10],#[22]⟩,none⟩,⟨some 12,.binOp .add 3 (.tmp 8) (.tmp 11) 3,none⟩,⟨some 13,.binOp .gtr 3 (.tmp 12) (.const (.int .i64 60)) 3,none⟩]) (.cond (.tmp 13) (.seq (.reg [⟨some 14,.call ⟨.value (.func 38),#[.const (.int .i64 2),.const (.int .i64 0)],#[3,3]⟩,none⟩,⟨none,.store 33 (.tmp 2) (.tmp 14),none⟩]) (.ret)) (.skip))) (.seq (.seq (.reg [⟨some 3,.assign (.const (.int .i64 0)),none⟩]) (.bloop 0 x26_L0)) (x26_T1)))
@[simp] theorem x26_s {C : WC} {e : AE} {s : Store} {K : KS} : type_of% (@X_at C e s K _ _ x26_T1.eq_1) ∧ type_of% (@X_at C e s K _ _ x26_L0.eq_1) ∧ type_of% (@X_at C e s K _ _ x26.eq_1) := ⟨X_at x26_T1.eq_1, X_at x26_L0.eq_1, X_at x26.eq_1⟩
def an26 : Ann := ⟨[], [(0, [], [1, 2, 3], [2])], []⟩
def cx26 (P : Program) (m : Nat) : WC := ⟨P, m, an26⟩
@[simp] theorem cx26_a {P : Program} {m : Nat} : (cx26 P m).P = P ∧ (cx26 P m).m = m ∧ (cx26 P m).A.loopOf 0 = ([], [1, 2, 3], [2]) := ⟨rfl, rfl, rfl⟩
instance {P : Program} {m f : Nat} [h : EnT P f] : EnT (cx26 P m).P f := h
theorem fi26 : FI Try.prog 26 cx26 x26 [.cell 2 33] Try.f26 := fiOf (fun _ _ => rfl) (by decide +kernel) Try.func26 (by kernel_rfl) (by kernel_rfl) mixed

theorem SequentFault_ref (l r : List Fm) (hl : l.length ≤ 50000) (hr : r.length ≤ 50000) : CallOK Try.prog 26 [.agg [.list (l.map frm), .list (r.map frm)]] [] (.agg [.int .i64 (sequentF l r).1, .int .i64 (sequentF l r).2]) [] := by
  refine fi26.op ?_
  unfold sequentF
  by_cases h6 : 60 < l.length + r.length
  · have h6i : (60 : Int) < (l.length : Int) + (r.length : Int) := by omega
    rw [if_pos h6]
    ((refine Sg.h ?_); try repeat' ((first | (with_reducible first | refine Sg.mk ?_ | refine brA ?_ | refine brE fun _ => ?_ | (refine spl (And.intro ?_ ?_) <;> intro _)) | (refine clo (F_ref 2 0) ?_)) <;> ((try simp (implicitDefEqProofs := false) [h6i]); (try simp (implicitDefEqProofs := false) (disch := first | assumption | (try simp only [lens]); omega -splitDisjunctions) [h6i]))))
  · have h6i : ¬ (60 : Int) < (l.length : Int) + (r.length : Int) := by omega
    rw [if_neg h6]
    generalize hE : seqGo (l ++ r) 0 = E
    ((refine Sg.h ?_); try repeat' ((first | (with_reducible first | refine Sg.mk ?_ | refine brA ?_ | refine brE fun _ => ?_ | (refine spl (And.intro ?_ ?_) <;> intro _))) <;> ((try simp (implicitDefEqProofs := false) [h6i]); (try simp (implicitDefEqProofs := false) (disch := first | assumption | (try simp only [lens]); omega -splitDisjunctions) [h6i]))))
    refine W_of fun Q hQ => ?_
    have main : ∀ n i, i + n = l.length + r.length → seqGo ((l ++ r).drop i) i = E → Q [(1, .ptr 0 0 0), (2, .ptr 1 0 0), (3, .int .i64 (i : Int))] [.rows 2 [[.list (l.map frm), .list (r.map frm)]], .rows 2 [[.int .i64 0, .int .i64 0]]] := by
      intro n
      induction n with
      | zero =>
        intro i hi he
        rw [List.drop_of_length_le (by simp; omega), seqGo] at he
        have hii : ¬ (i : Int) < (l.length : Int) + (r.length : Int) := by omega
        apply hQ
        clear hQ
        subst he
        ((refine Sg.h ?_); try repeat' ((first | (with_reducible first | refine Sg.mk ?_ | refine brA ?_ | refine brE fun _ => ?_ | (refine spl (And.intro ?_ ?_) <;> intro _))) <;> ((try simp (implicitDefEqProofs := false) [hii]); (try simp (implicitDefEqProofs := false) (disch := first | assumption | (try simp only [lens]); omega -splitDisjunctions) [hii]))))
      | succ n ih =>
        intro i hi he
        have hil : i < (l ++ r).length := by simp; omega
        have hii : (i : Int) < (l.length : Int) + (r.length : Int) := by omega
        have ih := ih (i + 1) (by omega)
        rw [List.drop_eq_getElem_cons hil, seqGo] at he
        have hp := PlainFault_ref [(l ++ r)[i]] (by simp)
        rw [plainL_sgl] at hp
        have hf := F_ref (plainF (l ++ r)[i]).1 (i : Int)
        apply hQ
        clear hQ
        by_cases hlt : i < l.length
        · rw [List.getElem_append_left hlt] at *
          by_cases h0 : (plainF l[i]).1 = 0
          · rw [if_neg (by simpa using h0)] at he hp
            have ih := ih he
            ((refine Sg.h ?_); try repeat' ((first | (with_reducible first | refine Sg.mk ?_ | refine brA ?_ | refine brE fun _ => ?_ | (refine spl (And.intro ?_ ?_) <;> intro _))) <;> ((try simp (implicitDefEqProofs := false) [hii, hlt]); (try simp (implicitDefEqProofs := false) (disch := first | assumption | (try simp only [lens]); omega -splitDisjunctions) [hii, hlt]))))
            refine CL.giv [3] ?_
            ((refine Sg.h ?_); try repeat' ((first | (with_reducible first | refine Sg.mk ?_ | refine brA ?_ | refine brE fun _ => ?_ | (refine spl (And.intro ?_ ?_) <;> intro _)) | (refine clo hp ?_)) <;> ((try simp (implicitDefEqProofs := false)); (try simp (implicitDefEqProofs := false) (disch := first | assumption | (try simp only [lens]); omega -splitDisjunctions)))))
            all_goals first | exact ih | (refine at2 ih ?_ ?_ <;> simp; done) | (exfalso; first | omega | (simp_all; done) | (simp_all; omega))
          · rw [if_pos (by simpa using h0)] at he hp
            subst he
            generalize plainF l[i] = P at *
            ((refine Sg.h ?_); try repeat' ((first | (with_reducible first | refine Sg.mk ?_ | refine brA ?_ | refine brE fun _ => ?_ | (refine spl (And.intro ?_ ?_) <;> intro _))) <;> ((try simp (implicitDefEqProofs := false) [hii, hlt]); (try simp (implicitDefEqProofs := false) (disch := first | assumption | (try simp only [lens]); omega -splitDisjunctions) [hii, hlt]))))
            refine CL.giv [3] ?_
            ((refine Sg.h ?_); try repeat' ((first | (with_reducible first | refine Sg.mk ?_ | refine brA ?_ | refine brE fun _ => ?_ | (refine spl (And.intro ?_ ?_) <;> intro _)) | (refine clo hp ?_) | (refine clo hf ?_)) <;> ((try simp (implicitDefEqProofs := false) [h0]); (try simp (implicitDefEqProofs := false) (disch := first | assumption | (try simp only [lens]); omega -splitDisjunctions) [h0]))))
        · have hr2 : i - l.length < r.length := by simp at hil; omega
          have hlti : ¬ (i : Int) < (l.length : Int) := by omega
          have hsub : (i : Int) - (l.length : Int) = ((i - l.length : Nat) : Int) := by omega
          rw [List.getElem_append_right (by omega)] at *
          by_cases h0 : (plainF r[i - l.length]).1 = 0
          · rw [if_neg (by simpa using h0)] at he hp
            have ih := ih he
            ((refine Sg.h ?_); try repeat' ((first | (with_reducible first | refine Sg.mk ?_ | refine brA ?_ | refine brE fun _ => ?_ | (refine spl (And.intro ?_ ?_) <;> intro _))) <;> ((try simp (implicitDefEqProofs := false) [hii, hlti, hsub, hr2]); (try simp (implicitDefEqProofs := false) (disch := first | assumption | (try simp only [lens]); omega -splitDisjunctions) [hii, hlti, hsub, hr2]))))
            refine CL.giv [3] ?_
            ((refine Sg.h ?_); try repeat' ((first | (with_reducible first | refine Sg.mk ?_ | refine brA ?_ | refine brE fun _ => ?_ | (refine spl (And.intro ?_ ?_) <;> intro _)) | (refine clo hp ?_)) <;> ((try simp (implicitDefEqProofs := false)); (try simp (implicitDefEqProofs := false) (disch := first | assumption | (try simp only [lens]); omega -splitDisjunctions)))))
            all_goals first | exact ih | (refine at2 ih ?_ ?_ <;> simp; done) | (exfalso; first | omega | (simp_all; done) | (simp_all; omega))
          · rw [if_pos (by simpa using h0)] at he hp
            subst he
            generalize plainF r[i - l.length] = P at *
            ((refine Sg.h ?_); try repeat' ((first | (with_reducible first | refine Sg.mk ?_ | refine brA ?_ | refine brE fun _ => ?_ | (refine spl (And.intro ?_ ?_) <;> intro _))) <;> ((try simp (implicitDefEqProofs := false) [hii, hlti, hsub, hr2]); (try simp (implicitDefEqProofs := false) (disch := first | assumption | (try simp only [lens]); omega -splitDisjunctions) [hii, hlti, hsub, hr2]))))
            refine CL.giv [3] ?_
            ((refine Sg.h ?_); try repeat' ((first | (with_reducible first | refine Sg.mk ?_ | refine brA ?_ | refine brE fun _ => ?_ | (refine spl (And.intro ?_ ?_) <;> intro _)) | (refine clo hp ?_) | (refine clo hf ?_)) <;> ((try simp (implicitDefEqProofs := false) [h0]); (try simp (implicitDefEqProofs := false) (disch := first | assumption | (try simp only [lens]); omega -splitDisjunctions) [h0]))))
    all_goals first | exact main _ 0 (Nat.zero_add _) (by simpa using hE) | (refine at2 main _ 0 (Nat.zero_add _) (by simpa using hE) ?_ ?_ <;> simp; done) | (exfalso; first | omega | (simp_all; done) | (simp_all; omega))
end Go.Proofs.Ytnoklmapofogeaa
namespace Go.Proofs.Ytnoklmapofogeaa
open Go Go.Pv
set_option linter.unusedVariables false
set_option linter.unusedSimpArgs false
set_option maxRecDepth 100000

theorem name_or (n : ByteArray) : n = ⟨#[97, 120]⟩ ∨ n = ⟨#[116, 114, 117, 101]⟩ ∨ n = ⟨#[102, 97, 108, 115, 101]⟩ ∨ n = ⟨#[97, 110, 100, 45, 108]⟩ ∨ n = ⟨#[97, 110, 100, 45, 114]⟩ ∨ n = ⟨#[111, 114, 45, 108]⟩ ∨ n = ⟨#[116, 104, 101, 110, 45, 114]⟩ ∨ n = ⟨#[110, 111, 116, 45, 114]⟩ ∨ n = ⟨#[99, 111, 110, 116, 114, 45, 108]⟩ ∨ n = ⟨#[99, 117, 116]⟩ ∨ n = ⟨#[116, 104, 101, 110, 45, 108]⟩ ∨ n = ⟨#[110, 111, 116, 45, 108]⟩ ∨ n = ⟨#[111, 114, 45, 114]⟩ ∨ n = ⟨#[99, 111, 110, 116, 114, 45, 114]⟩ ∨ n = ⟨#[111, 114, 45, 114, 49]⟩ ∨ n = ⟨#[111, 114, 45, 114, 50]⟩ ∨ (n ≠ ⟨#[97, 120]⟩ ∧ n ≠ ⟨#[116, 114, 117, 101]⟩ ∧ n ≠ ⟨#[102, 97, 108, 115, 101]⟩ ∧ n ≠ ⟨#[97, 110, 100, 45, 108]⟩ ∧ n ≠ ⟨#[97, 110, 100, 45, 114]⟩ ∧ n ≠ ⟨#[111, 114, 45, 108]⟩ ∧ n ≠ ⟨#[116, 104, 101, 110, 45, 114]⟩ ∧ n ≠ ⟨#[110, 111, 116, 45, 114]⟩ ∧ n ≠ ⟨#[99, 111, 110, 116, 114, 45, 108]⟩ ∧ n ≠ ⟨#[99, 117, 116]⟩ ∧ n ≠ ⟨#[116, 104, 101, 110, 45, 108]⟩ ∧ n ≠ ⟨#[110, 111, 116, 45, 108]⟩ ∧ n ≠ ⟨#[111, 114, 45, 114]⟩ ∧ n ≠ ⟨#[99, 111, 110, 116, 114, 45, 114]⟩ ∧ n ≠ ⟨#[111, 114, 45, 114, 49]⟩ ∧ n ≠ ⟨#[111, 114, 45, 114, 50]⟩) := by
  by_cases h0 : n = ⟨#[97, 120]⟩
  · exact .inl h0
  refine .inr ?_
  by_cases h1 : n = ⟨#[116, 114, 117, 101]⟩
  · exact .inl h1
  refine .inr ?_
  by_cases h2 : n = ⟨#[102, 97, 108, 115, 101]⟩
  · exact .inl h2
  refine .inr ?_
  by_cases h3 : n = ⟨#[97, 110, 100, 45, 108]⟩
  · exact .inl h3
  refine .inr ?_
  by_cases h4 : n = ⟨#[97, 110, 100, 45, 114]⟩
  · exact .inl h4
  refine .inr ?_
  by_cases h5 : n = ⟨#[111, 114, 45, 108]⟩
  · exact .inl h5
  refine .inr ?_
  by_cases h6 : n = ⟨#[116, 104, 101, 110, 45, 114]⟩
  · exact .inl h6
  refine .inr ?_
  by_cases h7 : n = ⟨#[110, 111, 116, 45, 114]⟩
  · exact .inl h7
  refine .inr ?_
  by_cases h8 : n = ⟨#[99, 111, 110, 116, 114, 45, 108]⟩
  · exact .inl h8
  refine .inr ?_
  by_cases h9 : n = ⟨#[99, 117, 116]⟩
  · exact .inl h9
  refine .inr ?_
  by_cases h10 : n = ⟨#[116, 104, 101, 110, 45, 108]⟩
  · exact .inl h10
  refine .inr ?_
  by_cases h11 : n = ⟨#[110, 111, 116, 45, 108]⟩
  · exact .inl h11
  refine .inr ?_
  by_cases h12 : n = ⟨#[111, 114, 45, 114]⟩
  · exact .inl h12
  refine .inr ?_
  by_cases h13 : n = ⟨#[99, 111, 110, 116, 114, 45, 114]⟩
  · exact .inl h13
  refine .inr ?_
  by_cases h14 : n = ⟨#[111, 114, 45, 114, 49]⟩
  · exact .inl h14
  refine .inr ?_
  by_cases h15 : n = ⟨#[111, 114, 45, 114, 50]⟩
  · exact .inl h15
  refine .inr ?_
  exact ⟨h0, h1, h2, h3, h4, h5, h6, h7, h8, h9, h10, h11, h12, h13, h14, h15⟩
theorem hasR_eq (l : List Fm) (f : Fm) : hasR l f = hasF l f := by
  unfold hasR
  rw [Bool.eq_iff_iff, List.any_eq_true, hasF_iff]
  constructor
  · rintro ⟨y, hy, h⟩; rwa [← sameB_iff.1 h]
  · exact fun h => ⟨f, h, sameB_iff.2 rfl⟩
theorem ruleT_none (u : Bool) {n : ByteArray} (h : n ≠ ⟨#[97, 120]⟩ ∧ n ≠ ⟨#[116, 114, 117, 101]⟩ ∧ n ≠ ⟨#[102, 97, 108, 115, 101]⟩ ∧ n ≠ ⟨#[97, 110, 100, 45, 108]⟩ ∧ n ≠ ⟨#[97, 110, 100, 45, 114]⟩ ∧ n ≠ ⟨#[111, 114, 45, 108]⟩ ∧ n ≠ ⟨#[116, 104, 101, 110, 45, 114]⟩ ∧ n ≠ ⟨#[110, 111, 116, 45, 114]⟩ ∧ n ≠ ⟨#[99, 111, 110, 116, 114, 45, 108]⟩ ∧ n ≠ ⟨#[99, 117, 116]⟩ ∧ n ≠ ⟨#[116, 104, 101, 110, 45, 108]⟩ ∧ n ≠ ⟨#[110, 111, 116, 45, 108]⟩ ∧ n ≠ ⟨#[111, 114, 45, 114]⟩ ∧ n ≠ ⟨#[99, 111, 110, 116, 114, 45, 114]⟩ ∧ n ≠ ⟨#[111, 114, 45, 114, 49]⟩ ∧ n ≠ ⟨#[111, 114, 45, 114, 50]⟩) : ruleT u n = none := by
  obtain ⟨h0, h1, h2, h3, h4, h5, h6, h7, h8, h9, h10, h11, h12, h13, h14, h15⟩ := h
  unfold ruleT lookT
  cases u <;> simp [sharedT, classT, intuT, h0, h1, h2, h3, h4, h5, h6, h7, h8, h9, h10, h11, h12, h13, h14, h15]
theorem rt_ax_f : ruleT false ⟨#[97, 120]⟩ = some ⟨145, [], axR⟩ := by kernel_rfl
theorem rt_ax_t : ruleT true ⟨#[97, 120]⟩ = some ⟨145, [], axR⟩ := by kernel_rfl
theorem rt_true_f : ruleT false ⟨#[116, 114, 117, 101]⟩ = some ⟨146, [], trueR⟩ := by kernel_rfl
theorem rt_true_t : ruleT true ⟨#[116, 114, 117, 101]⟩ = some ⟨146, [], trueR⟩ := by kernel_rfl
theorem rt_false_f : ruleT false ⟨#[102, 97, 108, 115, 101]⟩ = some ⟨148, [], falseR⟩ := by kernel_rfl
theorem rt_false_t : ruleT true ⟨#[102, 97, 108, 115, 101]⟩ = some ⟨148, [], falseR⟩ := by kernel_rfl
theorem rt_andl_f : ruleT false ⟨#[97, 110, 100, 45, 108]⟩ = some ⟨149, [], andLR⟩ := by kernel_rfl
theorem rt_andl_t : ruleT true ⟨#[97, 110, 100, 45, 108]⟩ = some ⟨149, [], andLR⟩ := by kernel_rfl
theorem rt_andr_f : ruleT false ⟨#[97, 110, 100, 45, 114]⟩ = some ⟨151, [], andRR⟩ := by kernel_rfl
theorem rt_andr_t : ruleT true ⟨#[97, 110, 100, 45, 114]⟩ = some ⟨151, [], andRR⟩ := by kernel_rfl
theorem rt_orl_f : ruleT false ⟨#[111, 114, 45, 108]⟩ = some ⟨152, [], orLR⟩ := by kernel_rfl
theorem rt_orl_t : ruleT true ⟨#[111, 114, 45, 108]⟩ = some ⟨152, [], orLR⟩ := by kernel_rfl
theorem rt_thenr_f : ruleT false ⟨#[116, 104, 101, 110, 45, 114]⟩ = some ⟨153, [], thenRR⟩ := by kernel_rfl
theorem rt_thenr_t : ruleT true ⟨#[116, 104, 101, 110, 45, 114]⟩ = some ⟨153, [], thenRR⟩ := by kernel_rfl
theorem rt_notr_f : ruleT false ⟨#[110, 111, 116, 45, 114]⟩ = some ⟨154, [], notRR⟩ := by kernel_rfl
theorem rt_notr_t : ruleT true ⟨#[110, 111, 116, 45, 114]⟩ = some ⟨154, [], notRR⟩ := by kernel_rfl
theorem rt_contrl_f : ruleT false ⟨#[99, 111, 110, 116, 114, 45, 108]⟩ = some ⟨155, [], contrLR⟩ := by kernel_rfl
theorem rt_contrl_t : ruleT true ⟨#[99, 111, 110, 116, 114, 45, 108]⟩ = some ⟨155, [], contrLR⟩ := by kernel_rfl
theorem rt_cut_f : ruleT false ⟨#[99, 117, 116]⟩ = some ⟨160, [], cutCR⟩ := by kernel_rfl
theorem rt_cut_t : ruleT true ⟨#[99, 117, 116]⟩ = some ⟨164, [], cutIR⟩ := by kernel_rfl
theorem rt_thenl_f : ruleT false ⟨#[116, 104, 101, 110, 45, 108]⟩ = some ⟨157, [], thenLR⟩ := by kernel_rfl
theorem rt_thenl_t : ruleT true ⟨#[116, 104, 101, 110, 45, 108]⟩ = some ⟨162, [], thenIR⟩ := by kernel_rfl
theorem rt_notl_f : ruleT false ⟨#[110, 111, 116, 45, 108]⟩ = some ⟨158, [], notLR⟩ := by kernel_rfl
theorem rt_notl_t : ruleT true ⟨#[110, 111, 116, 45, 108]⟩ = some ⟨163, [], notIR⟩ := by kernel_rfl
theorem rt_orr_f : ruleT false ⟨#[111, 114, 45, 114]⟩ = some ⟨156, [], orRR⟩ := by kernel_rfl
theorem rt_orr_t : ruleT true ⟨#[111, 114, 45, 114]⟩ = none := by kernel_rfl
theorem rt_contrr_f : ruleT false ⟨#[99, 111, 110, 116, 114, 45, 114]⟩ = some ⟨159, [], contrRR⟩ := by kernel_rfl
theorem rt_contrr_t : ruleT true ⟨#[99, 111, 110, 116, 114, 45, 114]⟩ = none := by kernel_rfl
theorem rt_orr1_f : ruleT false ⟨#[111, 114, 45, 114, 49]⟩ = none := by kernel_rfl
theorem rt_orr1_t : ruleT true ⟨#[111, 114, 45, 114, 49]⟩ = some ⟨178, [.iptr [.int .i64 (0 : Int)]], (sideR 0)⟩ := by kernel_rfl
theorem rt_orr2_f : ruleT false ⟨#[111, 114, 45, 114, 50]⟩ = none := by kernel_rfl
theorem rt_orr2_t : ruleT true ⟨#[111, 114, 45, 114, 50]⟩ = some ⟨178, [.iptr [.int .i64 (1 : Int)]], (sideR 1)⟩ := by kernel_rfl
theorem prem_is (u : Bool) (n : ByteArray) (f : Fm) (l r : List Fm) (a b : Fm) : (premM u n f l r a b).2.1 = (ruleT u n).isSome := by
  rcases name_or n with rfl | rfl | rfl | rfl | rfl | rfl | rfl | rfl | rfl | rfl | rfl | rfl | rfl | rfl | rfl | rfl | h
  · cases u <;> simp [premM, rt_ax_f, rt_ax_t]
  · cases u <;> simp [premM, rt_true_f, rt_true_t]
  · cases u <;> simp [premM, rt_false_f, rt_false_t]
  · cases u <;> simp [premM, rt_andl_f, rt_andl_t]
  · cases u <;> simp [premM, rt_andr_f, rt_andr_t]
  · cases u <;> simp [premM, rt_orl_f, rt_orl_t]
  · cases u <;> simp [premM, rt_thenr_f, rt_thenr_t]
  · cases u <;> simp [premM, rt_notr_f, rt_notr_t]
  · cases u <;> simp [premM, rt_contrl_f, rt_contrl_t]
  · cases u <;> simp [premM, rt_cut_f, rt_cut_t]
  · cases u <;> simp [premM, rt_thenl_f, rt_thenl_t]
  · cases u <;> simp [premM, rt_notl_f, rt_notl_t]
  · cases u <;> simp [premM, rt_orr_f, rt_orr_t]
  · cases u <;> simp [premM, rt_contrr_f, rt_contrr_t]
  · cases u <;> simp [premM, rt_orr1_f, rt_orr1_t]
  · cases u <;> simp [premM, rt_orr2_f, rt_orr2_t]
  · rw [ruleT_none u h]
    obtain ⟨h0, h1, h2, h3, h4, h5, h6, h7, h8, h9, h10, h11, h12, h13, h14, h15⟩ := h
    simp [premM, h0, h1, h2, h3, h4, h5, h6, h7, h8, h9, h10, h11, h12, h13, h14, h15]
theorem prem_rule {u : Bool} {n : ByteArray} {e : Ent} (h : ruleT u n = some e) (f : Fm) (hA : Ar f) (l r : List Fm) : (premM u n f l r (f.kids.headD zF) (f.kids.getLastD zF)).2.2 = (e.R f l r).2 ∧ ((e.R f l r).2 = true → (premM u n f l r (f.kids.headD zF) (f.kids.getLastD zF)).1 = (e.R f l r).1) := by
  have k1 : ∀ k, k = 4 → f.kind = k → ∃ a, f.kids = [a] := fun k hk h => hA.one (by omega)
  have k2 : ∀ k, (k = 5 ∨ k = 6 ∨ k = 7) → f.kind = k → ∃ a b, f.kids = [a, b] := fun k hk h => hA.two (by omega)
  rcases name_or n with rfl | rfl | rfl | rfl | rfl | rfl | rfl | rfl | rfl | rfl | rfl | rfl | rfl | rfl | rfl | rfl | hn
  · cases u
    · rw [rt_ax_f] at h; cases h
      simp [premM, axR, hasR_eq, kindF]
    · rw [rt_ax_t] at h; cases h
      simp [premM, axR, hasR_eq, kindF]
  · cases u
    · rw [rt_true_f] at h; cases h
      simp [premM, trueR, hasR_eq, kindF]
    · rw [rt_true_t] at h; cases h
      simp [premM, trueR, hasR_eq, kindF]
  · cases u
    · rw [rt_false_f] at h; cases h
      simp [premM, falseR, hasR_eq, kindF]
    · rw [rt_false_t] at h; cases h
      simp [premM, falseR, hasR_eq, kindF]
  · cases u
    · rw [rt_andl_f] at h; cases h
      by_cases hk : f.kind = 5
      · obtain ⟨a, b, hks⟩ := k2 5 (by decide) hk
        cases hh : hasF l f <;> simp [premM, andLR, kindF, hasR_eq, hh, hk, hks, kid]
      · simp [premM, andLR, kindF, hasR_eq, hk]
    · rw [rt_andl_t] at h; cases h
      by_cases hk : f.kind = 5
      · obtain ⟨a, b, hks⟩ := k2 5 (by decide) hk
        cases hh : hasF l f <;> simp [premM, andLR, kindF, hasR_eq, hh, hk, hks, kid]
      · simp [premM, andLR, kindF, hasR_eq, hk]
  · cases u
    · rw [rt_andr_f] at h; cases h
      by_cases hk : f.kind = 5
      · obtain ⟨a, b, hks⟩ := k2 5 (by decide) hk
        cases hh : hasF r f <;> simp [premM, andRR, kindF, hasR_eq, hh, hk, hks, kid]
      · simp [premM, andRR, kindF, hasR_eq, hk]
    · rw [rt_andr_t] at h; cases h
      by_cases hk : f.kind = 5
      · obtain ⟨a, b, hks⟩ := k2 5 (by decide) hk
        cases hh : hasF r f <;> simp [premM, andRR, kindF, hasR_eq, hh, hk, hks, kid]
      · simp [premM, andRR, kindF, hasR_eq, hk]
  · cases u
    · rw [rt_orl_f] at h; cases h
      by_cases hk : f.kind = 6
      · obtain ⟨a, b, hks⟩ := k2 6 (by decide) hk
        cases hh : hasF l f <;> simp [premM, orLR, kindF, hasR_eq, hh, hk, hks, kid]
      · simp [premM, orLR, kindF, hasR_eq, hk]
    · rw [rt_orl_t] at h; cases h
      by_cases hk : f.kind = 6
      · obtain ⟨a, b, hks⟩ := k2 6 (by decide) hk
        cases hh : hasF l f <;> simp [premM, orLR, kindF, hasR_eq, hh, hk, hks, kid]
      · simp [premM, orLR, kindF, hasR_eq, hk]
  · cases u
    · rw [rt_thenr_f] at h; cases h
      by_cases hk : f.kind = 7
      · obtain ⟨a, b, hks⟩ := k2 7 (by decide) hk
        cases hh : hasF r f <;> simp [premM, thenRR, kindF, hasR_eq, hh, hk, hks, kid]
      · simp [premM, thenRR, kindF, hasR_eq, hk]
    · rw [rt_thenr_t] at h; cases h
      by_cases hk : f.kind = 7
      · obtain ⟨a, b, hks⟩ := k2 7 (by decide) hk
        cases hh : hasF r f <;> simp [premM, thenRR, kindF, hasR_eq, hh, hk, hks, kid]
      · simp [premM, thenRR, kindF, hasR_eq, hk]
  · cases u
    · rw [rt_notr_f] at h; cases h
      by_cases hk : f.kind = 4
      · obtain ⟨a, hks⟩ := k1 4 (by decide) hk
        cases hh : hasF r f <;> simp [premM, notRR, kindF, hasR_eq, hh, hk, hks, kid]
      · simp [premM, notRR, kindF, hasR_eq, hk]
    · rw [rt_notr_t] at h; cases h
      by_cases hk : f.kind = 4
      · obtain ⟨a, hks⟩ := k1 4 (by decide) hk
        cases hh : hasF r f <;> simp [premM, notRR, kindF, hasR_eq, hh, hk, hks, kid]
      · simp [premM, notRR, kindF, hasR_eq, hk]
  · cases u
    · rw [rt_contrl_f] at h; cases h
      cases hh : hasF l f <;> simp [premM, contrLR, hasR_eq, hh]
    · rw [rt_contrl_t] at h; cases h
      cases hh : hasF l f <;> simp [premM, contrLR, hasR_eq, hh]
  · cases u
    · rw [rt_cut_f] at h; cases h
      simp [premM, cutCR]
    · rw [rt_cut_t] at h; cases h
      simp [premM, cutIR]
  · cases u
    · rw [rt_thenl_f] at h; cases h
      by_cases hk : f.kind = 7
      · obtain ⟨a, b, hks⟩ := k2 7 (by decide) hk
        cases hh : hasF l f <;> simp [premM, thenLR, kindF, hasR_eq, hh, hk, hks, kid]
      · simp [premM, thenLR, kindF, hasR_eq, hk]
    · rw [rt_thenl_t] at h; cases h
      by_cases hk : f.kind = 7
      · obtain ⟨a, b, hks⟩ := k2 7 (by decide) hk
        cases hh : hasF l f <;> simp [premM, thenIR, kindF, hasR_eq, hh, hk, hks, kid]
      · simp [premM, thenIR, kindF, hasR_eq, hk]
  · cases u
    · rw [rt_notl_f] at h; cases h
      by_cases hk : f.kind = 4
      · obtain ⟨a, hks⟩ := k1 4 (by decide) hk
        cases hh : hasF l f <;> simp [premM, notLR, kindF, hasR_eq, hh, hk, hks, kid]
      · simp [premM, notLR, kindF, hasR_eq, hk]
    · rw [rt_notl_t] at h; cases h
      by_cases hk : f.kind = 4
      · obtain ⟨a, hks⟩ := k1 4 (by decide) hk
        cases hh : hasF l f <;> simp [premM, notIR, kindF, hasR_eq, hh, hk, hks, kid]
      · simp [premM, notIR, kindF, hasR_eq, hk]
  · cases u
    · rw [rt_orr_f] at h; cases h
      by_cases hk : f.kind = 6
      · obtain ⟨a, b, hks⟩ := k2 6 (by decide) hk
        cases hh : hasF r f <;> simp [premM, orRR, kindF, hasR_eq, hh, hk, hks, kid]
      · simp [premM, orRR, kindF, hasR_eq, hk]
    · rw [rt_orr_t] at h; cases h
  · cases u
    · rw [rt_contrr_f] at h; cases h
      cases hh : hasF r f <;> simp [premM, contrRR, hasR_eq, hh]
    · rw [rt_contrr_t] at h; cases h
  · cases u
    · rw [rt_orr1_f] at h; cases h
    · rw [rt_orr1_t] at h; cases h
      by_cases hk : f.kind = 6
      · obtain ⟨a, b, hks⟩ := k2 6 (by decide) hk
        cases hh : hasF r f <;> simp [premM, sideR, kindF, hasR_eq, hh, hk, hks, kid]
      · simp [premM, sideR, kindF, hasR_eq, hk]
  · cases u
    · rw [rt_orr2_f] at h; cases h
    · rw [rt_orr2_t] at h; cases h
      by_cases hk : f.kind = 6
      · obtain ⟨a, b, hks⟩ := k2 6 (by decide) hk
        cases hh : hasF r f <;> simp [premM, sideR, kindF, hasR_eq, hh, hk, hks, kid]
      · simp [premM, sideR, kindF, hasR_eq, hk]
  · rw [ruleT_none u hn] at h; cases h
end Go.Proofs.Ytnoklmapofogeaa
namespace Go.Proofs.Ytnoklmapofogeaa
open Go Go.Pv
set_option linter.unusedVariables false
set_option linter.unusedSimpArgs false
set_option maxRecDepth 100000
set_option maxHeartbeats 4000000

noncomputable def codeF (u : Bool) (p : Pf) : Int := if (sequentF p.l p.r).1 ≠ 0 ∨ (u = true ∧ 1 < p.r.length) then 5 else stepF u p
def x67_L0 : XC := .seq (.seq (.reg [⟨some 114,.move (.tmp 11),none⟩,⟨some 115,.move (.tmp 8),none⟩,⟨some 116,.call ⟨.builtin .len,#[.tmp 115],#[111]⟩,none⟩,⟨some 117,.binOp .lss 3 (.tmp 114) (.tmp 116) 3,none⟩]) (.cond (.tmp 117) (.skip) (.exit 0))) (.seq (.block 1 (.seq (.drawn 24 [⟨some 120,.move (.tmp 8),none⟩,⟨some 121,.move (.tmp 11),none⟩,⟨some 122,.indexAddr 111 (.tmp 120) (.tmp 121),none⟩,⟨some 123,.fieldAddr 26 (.tmp 122) 0,none⟩,⟨some 124,.load 22 (.tmp 123),none⟩,⟨some 125,.fieldAddr 29 (.tmp 2) 3,none⟩,⟨some 126,.load 27 (.tmp 125),none⟩,⟨some 127,.move (.tmp 11),none⟩,⟨some 128,.indexAddr 27 (.tmp 126) (.tmp 127),none⟩,⟨some 129,.fieldAddr 29 (.tmp 128) 2,none⟩,⟨some 130,.fieldAddr 26 (.tmp 129) 0,none⟩,⟨some 131,.load 22 (.tmp 130),none⟩,⟨some 132,.call ⟨.value (.func 56),#[.tmp 124,.tmp 131],#[22,22]⟩,none⟩,⟨some 133,.unOp .not 4 (.tmp 132),none⟩,⟨some 134,.move (.tmp 133),none⟩,⟨some 135,.move (.tmp 8),some (some 134,false)⟩,⟨some 136,.move (.tmp 11),some (some 134,false)⟩,⟨some 137,.indexAddr 111 (.tmp 135) (.tmp 136),some (some 134,false)⟩,⟨some 138,.fieldAddr 26 (.tmp 137) 1,some (some 134,false)⟩,⟨some 139,.load 22 (.tmp 138),some (some 134,false)⟩,⟨some 140,.fieldAddr 29 (.tmp 2) 3,some (some 134,false)⟩,⟨some 141,.load 27 (.tmp 140),some (some 134,false)⟩,⟨some 142,.move (.tmp 11),some (some 134,false)⟩,⟨some 143,.indexAddr 27 (.tmp 141) (.tmp 142),some (some 134,false)⟩,⟨some 144,.fieldAddr 29 (.tmp 143) 2,some (some 134,false)⟩,⟨some 145,.fieldAddr 26 (.tmp 144) 1,some (some 134,false)⟩,⟨some 146,.load 22 (.tmp 145),some (some 134,false)⟩,⟨some 147,.call ⟨.value (.func 56),#[.tmp 139,.tmp 146],#[22,22]⟩,some (some 134,false)⟩,⟨some 148,.unOp .not 4 (.tmp 147),some (some 134,false)⟩,⟨some 149,.pick (.tmp 134) (.const (.bool true)) (.tmp 148),none⟩]) (.cond (.tmp 149) (.seq (.reg [⟨some 4,.assign (.const (.int .i64 7)),none⟩]) (.ret)) (.skip)))) (.reg [⟨some 118,.move (.tmp 11),none⟩,⟨some 119,.binOp .add 3 (.tmp 118) (.const (.int .i64 1)) 3,none⟩,⟨some 11,.assign (.tmp 119),none⟩]))
def x67 : XC := .seq (.reg [⟨some 2,.box 29 (.tmp 0),none⟩,⟨some 4,.assign (.const (.int .i64 0)),none⟩]) (.seq (.seq (.reg [⟨some 12,.fieldAddr 29 (.tmp 2) 2,none⟩,⟨some 13,.load 26 (.tmp 12),none⟩,⟨some 14,.call ⟨.value (.func 26),#[.tmp 13],#[26]⟩,none⟩,⟨some 15,.field 33 (.tmp 14) 0,none⟩,⟨some 16,.binOp .neq 3 (.tmp 15) (.const (.int .i64 0)) 3,none⟩,⟨some 17,.move (.tmp 16),none⟩,⟨some 18,.move (.tmp 1),some (some 17,false)⟩,⟨some 19,.move (.tmp 18),some (some 17,false)⟩,⟨some 20,.fieldAddr 29 (.tmp 2) 2,some (some 19,true)⟩,⟨some 21,.fieldAddr 26 (.tmp 20) 1,some (some 19,true)⟩,⟨some 22,.load 22 (.tmp 21),some (some 19,true)⟩,⟨some 23,.call ⟨.builtin .len,#[.tmp 22],#[22]⟩,some (some 19,true)⟩,⟨some 24,.binOp .gtr 3 (.tmp 23) (.const (.int .i64 1)) 3,some (some 19,true)⟩,⟨some 25,.pick (.tmp 19) (.tmp 24) (.const (.bool false)),some (some 17,false)⟩,⟨some 26,.pick (.tmp 17) (.const (.bool true)) (.tmp 25),none⟩]) (.cond (.tmp 26) (.seq (.reg [⟨some 4,.assign (.const (.int .i64 5)),none⟩]) (.ret)) (.skip))) (.seq (.seq (.reg [⟨some 27,.fieldAddr 29 (.tmp 2) 0,none⟩,⟨some 28,.load 9 (.tmp 27),none⟩,⟨some 29,.binOp .eql 9 (.tmp 28) (.const (.string ⟨#[119,101,97,107]⟩)) 9,none⟩]) (.cond (.tmp 29) (.seq (.seq (.reg [⟨some 30,.fieldAddr 29 (.tmp 2) 1,none⟩,⟨some 31,.fieldAddr 24 (.tmp 30) 0,none⟩,⟨some 32,.load 3 (.tmp 31),none⟩,⟨some 33,.binOp .neq 3 (.tmp 32) (.const (.int .i64 0)) 3,none⟩,⟨some 34,.move (.tmp 33),none⟩,⟨some 35,.fieldAddr 29 (.tmp 2) 1,some (some 34,false)⟩,⟨some 36,.fieldAddr 24 (.tmp 35) 1,some (some 34,false)⟩,⟨some 37,.load 9 (.tmp 36),some (some 34,false)⟩,⟨some 38,.binOp .neq 9 (.tmp 37) (.const (.string ⟨#[]⟩)) 9,some (some 34,false)⟩,⟨some 39,.pick (.tmp 34) (.const (.bool true)) (.tmp 38),none⟩,⟨some 40,.move (.tmp 39),none⟩,⟨some 41,.fieldAddr 29 (.tmp 2) 1,some (some 40,false)⟩,⟨some 42,.fieldAddr 24 (.tmp 41) 2,some (some 40,false)⟩,⟨some 43,.load 22 (.tmp 42),some (some 40,false)⟩,⟨some 44,.call ⟨.builtin .len,#[.tmp 43],#[22]⟩,some (some 40,false)⟩,⟨some 45,.binOp .gtr 3 (.tmp 44) (.const (.int .i64 0)) 3,some (some 40,false)⟩,⟨some 46,.pick (.tmp 40) (.const (.bool true)) (.tmp 45),none⟩]) (.cond (.tmp 46) (.seq (.reg [⟨some 4,.assign (.const (.int .i64 5)),none⟩]) (.ret)) (.skip))) (.seq (.seq (.reg [⟨some 47,.fieldAddr 29 (.tmp 2) 3,none⟩,⟨some 48,.load 27 (.tmp 47),none⟩,⟨some 49,.call ⟨.builtin .len,#[.tmp 48],#[27]⟩,none⟩,⟨some 50,.binOp .neq 3 (.tmp 49) (.const (.int .i64 1)) 3,none⟩]) (.cond (.tmp 50) (.seq (.reg [⟨some 4,.assign (.const (.int .i64 9)),none⟩]) (.ret)) (.skip))) (.seq (.seq (.drawn 8 [⟨some 51,.fieldAddr 29 (.tmp 2) 3,none⟩,⟨some 52,.load 27 (.tmp 51),none⟩,⟨some 53,.indexAddr 27 (.tmp 52) (.const (.int .i64 0)),none⟩,⟨some 54,.fieldAddr 29 (.tmp 53) 2,none⟩,⟨some 55,.fieldAddr 26 (.tmp 54) 0,none⟩,⟨some 56,.load 22 (.tmp 55),none⟩,⟨some 57,.fieldAddr 29 (.tmp 2) 2,none⟩,⟨some 58,.fieldAddr 26 (.tmp 57) 0,none⟩,⟨some 59,.load 22 (.tmp 58),none⟩,⟨some 60,.call ⟨.value (.func 90),#[.tmp 56,.tmp 59],#[22,22]⟩,none⟩,⟨some 61,.unOp .not 4 (.tmp 60),none⟩,⟨some 62,.move (.tmp 61),none⟩,⟨some 63,.fieldAddr 29 (.tmp 2) 3,some (some 62,false)⟩,⟨some 64,.load 27 (.tmp 63),some (some 62,false)⟩,⟨some 65,.indexAddr 27 (.tmp 64) (.const (.int .i64 0)),some (some 62,false)⟩,⟨some 66,.fieldAddr 29 (.tmp 65) 2,some (some 62,false)⟩,⟨some 67,.fieldAddr 26 (.tmp 66) 1,some (some 62,false)⟩,⟨some 68,.load 22 (.tmp 67),some (some 62,false)⟩,⟨some 69,.fieldAddr 29 (.tmp 2) 2,some (some 62,false)⟩,⟨some 70,.fieldAddr 26 (.tmp 69) 1,some (some 62,false)⟩,⟨some 71,.load 22 (.tmp 70),some (some 62,false)⟩,⟨some 72,.call ⟨.value (.func 90),#[.tmp 68,.tmp 71],#[22,22]⟩,some (some 62,false)⟩,⟨some 73,.unOp .not 4 (.tmp 72),some (some 62,false)⟩,⟨some 74,.pick (.tmp 62) (.const (.bool true)) (.tmp 73),none⟩]) (.cond (.tmp 74) (.seq (.reg [⟨some 4,.assign (.const (.int .i64 7)),none⟩]) (.ret)) (.skip))) (.seq (.reg [⟨some 4,.assign (.const (.int .i64 0)),none⟩]) (.ret))))) (.skip))) (.seq (.reg [⟨some 76,.fieldAddr 29 (.tmp 2) 0,none⟩,⟨some 77,.load 9 (.tmp 76),none⟩,⟨some 78,.build 24 #[],none⟩,⟨some 79,.fieldAddr 29 (.tmp 2) 2,none⟩,⟨some 80,.load 26 (.tmp 79),none⟩,⟨some 81,.move (.tmp 1),none⟩,⟨some 82,.call ⟨.value (.func 96),#[.tmp 77,.tmp 78,.tmp 80,.tmp 81],#[9,24,26,4]⟩,none⟩,⟨some 75,.move (.tmp 82),none⟩,⟨some 83,.extract (.tmp 75) 0,none⟩,⟨some 84,.extract (.tmp 75) 1,none⟩,⟨some 85,.extract (.tmp 75) 2,none⟩,⟨some 5,.assign (.tmp 83),none⟩,⟨some 6,.assign (.tmp 84),none⟩,⟨some 7,.assign (.tmp 85),none⟩]) (.seq (.seq (.reg [⟨some 86,.move (.tmp 6),none⟩,⟨some 87,.unOp .not 4 (.tmp 86),none⟩]) (.cond (.tmp 87) (.seq (.reg [⟨some 4,.assign (.const (.int .i64 4)),none⟩]) (.ret)) (.skip))) (.seq (.seq (.reg [⟨some 88,.fieldAddr 29 (.tmp 2) 1,none⟩,⟨some 89,.load 24 (.tmp 88),none⟩,⟨some 90,.buildSlice 22 1 #[(0,.tmp 89)],none⟩,⟨some 91,.call ⟨.value (.func 21),#[.tmp 90],#[22]⟩,none⟩,⟨some 92,.field 33 (.tmp 91) 0,none⟩,⟨some 93,.binOp .neq 3 (.tmp 92) (.const (.int .i64 0)) 3,none⟩]) (.cond (.tmp 93) (.seq (.reg [⟨some 4,.assign (.const (.int .i64 5)),none⟩]) (.ret)) (.skip))) (.seq (.reg [⟨some 95,.fieldAddr 29 (.tmp 2) 0,none⟩,⟨some 96,.load 9 (.tmp 95),none⟩,⟨some 97,.fieldAddr 29 (.tmp 2) 1,none⟩,⟨some 98,.load 24 (.tmp 97),none⟩,⟨some 99,.fieldAddr 29 (.tmp 2) 2,none⟩,⟨some 100,.load 26 (.tmp 99),none⟩,⟨some 101,.move (.tmp 1),none⟩,⟨some 102,.call ⟨.value (.func 96),#[.tmp 96,.tmp 98,.tmp 100,.tmp 101],#[9,24,26,4]⟩,none⟩,⟨some 94,.move (.tmp 102),none⟩,⟨some 103,.extract (.tmp 94) 0,none⟩,⟨some 104,.extract (.tmp 94) 1,none⟩,⟨some 105,.extract (.tmp 94) 2,none⟩,⟨some 8,.assign (.tmp 103),none⟩,⟨some 9,.assign (.tmp 104),none⟩,⟨some 10,.assign (.tmp 105),none⟩]) (.seq (.seq (.reg [⟨some 106,.move (.tmp 10),none⟩,⟨some 107,.unOp .not 4 (.tmp 106),none⟩]) (.cond (.tmp 107) (.seq (.reg [⟨some 4,.assign (.const (.int .i64 7)),none⟩]) (.ret)) (.skip))) (.seq (.seq (.reg [⟨some 108,.fieldAddr 29 (.tmp 2) 3,none⟩,⟨some 109,.load 27 (.tmp 108),none⟩,⟨some 110,.call ⟨.builtin .len,#[.tmp 109],#[27]⟩,none⟩,⟨some 111,.move (.tmp 8),none⟩,⟨some 112,.call ⟨.builtin .len,#[.tmp 111],#[111]⟩,none⟩,⟨some 113,.binOp .neq 3 (.tmp 110) (.tmp 112) 3,none⟩]) (.cond (.tmp 113) (.seq (.reg [⟨some 4,.assign (.const (.int .i64 9)),none⟩]) (.ret)) (.skip))) (.seq (.seq (.reg [⟨some 11,.assign (.const (.int .i64 0)),none⟩]) (.bloop 0 x67_L0)) (.seq (.reg [⟨some 4,.assign (.const (.int .i64 0)),none⟩]) (.ret)))))))))))
@[simp] theorem x67_s {C : WC} {e : AE} {s : Store} {K : KS} : type_of% (@X_at C e s K _ _ x67_L0.eq_1) ∧ type_of% (@X_at C e s K _ _ x67.eq_1) := ⟨X_at x67_L0.eq_1, X_at x67.eq_1⟩
def an67 : Ann := ⟨[(8, .mix 21), (24, .mix 27)], [(0, [], [2, 8, 11], [4])], []⟩
def cx67 (P : Program) (m : Nat) : WC := ⟨P, m, an67⟩
@[simp] theorem cx67_a {P : Program} {m : Nat} : (cx67 P m).P = P ∧ (cx67 P m).m = m ∧ (cx67 P m).A.clsOf 8 = .mix 21 ∧ (cx67 P m).A.clsOf 24 = .mix 27 ∧ (cx67 P m).A.frzOf 8 = [] ∧ (cx67 P m).A.frzOf 24 = [] ∧ (cx67 P m).A.loopOf 0 = ([], [2, 8, 11], [4]) := ⟨rfl, rfl, rfl, rfl, rfl, rfl, rfl⟩
instance {P : Program} {m f : Nat} [h : EnT P f] : EnT (cx67 P m).P f := h
theorem fi67 : FI Try.prog 67 cx67 x67 [.tmp 4] Try.f67 := fiOf (fun _ _ => rfl) (by decide +kernel) Try.func67 (by kernel_rfl) (by kernel_rfl) mixed

theorem stepCode_weak (u : Bool) (p : Pf) (hp : Sz p) (hk : ∀ k ∈ p.kids, Sz k) (h0 : (sequentF p.l p.r).1 = 0) (h1 : u = false ∨ (u = true ∧ ¬ (1 : Int) < (p.r.length : Int))) (hw : p.rule = ⟨#[119, 101, 97, 107]⟩) : CallOK Try.prog 67 [.agg (prf p), .bool u] [] (.int .i64 (stepF u p)) [] := by
  have hp1 := hp.l
  have hp2 := hp.r
  have hs := SequentFault_ref p.l p.r (by omega) (by omega)
  generalize hV : stepF u p = V
  unfold stepF at hV
  rw [if_pos hw] at hV
  generalize sequentF p.l p.r = W at *
  refine fi67.op ?_
  cases hn : noneF p.f with
  | false =>
    rw [if_pos hn] at hV
    unfold noneF at hn
    simp only [Bool.and_eq_false_iff, decide_eq_false_iff_not] at hn
    subst hV
    by_cases e1 : p.f.kind = 0
    · by_cases e2 : p.f.name = ⟨#[]⟩
      · have e3 : (0 : Int) < (p.f.kids.length : Int) := by
          rcases hn with (h | h) | h
          · exact absurd e1 h
          · exact absurd e2 h
          · omega
        rcases h1 with rfl | ⟨rfl, h1⟩
        · ((refine Sg.h ?_); try repeat' ((first | (with_reducible first | refine Sg.mk ?_ | refine brA ?_ | refine brE fun _ => ?_ | (refine spl (And.intro ?_ ?_) <;> intro _)) | (refine clo hs ?_)) <;> ((try simp (implicitDefEqProofs := false) [h0, hw, e1, e2, e3]); (try simp (implicitDefEqProofs := false) (disch := first | assumption | (try simp only [lens]); omega -splitDisjunctions) [h0, hw, e1, e2, e3]))))
        · ((refine Sg.h ?_); try repeat' ((first | (with_reducible first | refine Sg.mk ?_ | refine brA ?_ | refine brE fun _ => ?_ | (refine spl (And.intro ?_ ?_) <;> intro _)) | (refine clo hs ?_)) <;> ((try simp (implicitDefEqProofs := false) [h0, h1, hw, e1, e2, e3]); (try simp (implicitDefEqProofs := false) (disch := first | assumption | (try simp only [lens]); omega -splitDisjunctions) [h0, h1, hw, e1, e2, e3]))))
      · rcases h1 with rfl | ⟨rfl, h1⟩
        · ((refine Sg.h ?_); try repeat' ((first | (with_reducible first | refine Sg.mk ?_ | refine brA ?_ | refine brE fun _ => ?_ | (refine spl (And.intro ?_ ?_) <;> intro _)) | (refine clo hs ?_)) <;> ((try simp (implicitDefEqProofs := false) [h0, hw, e1, e2]); (try simp (implicitDefEqProofs := false) (disch := first | assumption | (try simp only [lens]); omega -splitDisjunctions) [h0, hw, e1, e2]))))
        · ((refine Sg.h ?_); try repeat' ((first | (with_reducible first | refine Sg.mk ?_ | refine brA ?_ | refine brE fun _ => ?_ | (refine spl (And.intro ?_ ?_) <;> intro _)) | (refine clo hs ?_)) <;> ((try simp (implicitDefEqProofs := false) [h0, h1, hw, e1, e2]); (try simp (implicitDefEqProofs := false) (disch := first | assumption | (try simp only [lens]); omega -splitDisjunctions) [h0, h1, hw, e1, e2]))))
    · rcases h1 with rfl | ⟨rfl, h1⟩
      · ((refine Sg.h ?_); try repeat' ((first | (with_reducible first | refine Sg.mk ?_ | refine brA ?_ | refine brE fun _ => ?_ | (refine spl (And.intro ?_ ?_) <;> intro _)) | (refine clo hs ?_)) <;> ((try simp (implicitDefEqProofs := false) [h0, hw, e1]); (try simp (implicitDefEqProofs := false) (disch := first | assumption | (try simp only [lens]); omega -splitDisjunctions) [h0, hw, e1]))))
      · ((refine Sg.h ?_); try repeat' ((first | (with_reducible first | refine Sg.mk ?_ | refine brA ?_ | refine brE fun _ => ?_ | (refine spl (And.intro ?_ ?_) <;> intro _)) | (refine clo hs ?_)) <;> ((try simp (implicitDefEqProofs := false) [h0, h1, hw, e1]); (try simp (implicitDefEqProofs := false) (disch := first | assumption | (try simp only [lens]); omega -splitDisjunctions) [h0, h1, hw, e1]))))
  | true =>
    rw [if_neg (by rw [hn]; simp)] at hV
    unfold noneF at hn
    simp only [Bool.and_eq_true, decide_eq_true_eq] at hn
    obtain ⟨⟨e1, e2⟩, e3⟩ := hn
    have e3i : ¬ (0 : Int) < (p.f.kids.length : Int) := by omega
    by_cases hl : p.kids.length = 1
    · obtain ⟨k, hks⟩ : ∃ k, p.kids = [k] := List.length_eq_one_iff.1 hl
      have hk := hk k (by simp [hks])
      have hk1 := hk.l
      have hk2 := hk.r
      have w1 := NoMore_ref k.l p.l (by omega) (by omega)
      have w2 := NoMore_ref k.r p.r (by omega) (by omega)
      rw [hks] at hV
      dsimp only at hV
      cases b1 : withinF k.l p.l <;> rw [b1] at w1 hV
      · rw [if_neg (by simp)] at hV
        subst hV
        rcases h1 with rfl | ⟨rfl, h1⟩
        · ((refine Sg.h ?_); try repeat' ((first | (with_reducible first | refine Sg.mk ?_ | refine brA ?_ | refine brE fun _ => ?_ | (refine spl (And.intro ?_ ?_) <;> intro _)) | (refine clo hs ?_) | (refine clo w1 ?_)) <;> ((try simp (implicitDefEqProofs := false) [h0, hw, e1, e2, e3i, hks]); (try simp (implicitDefEqProofs := false) (disch := first | assumption | (try simp only [lens]); omega -splitDisjunctions) [h0, hw, e1, e2, e3i, hks]))))
        · ((refine Sg.h ?_); try repeat' ((first | (with_reducible first | refine Sg.mk ?_ | refine brA ?_ | refine brE fun _ => ?_ | (refine spl (And.intro ?_ ?_) <;> intro _)) | (refine clo hs ?_) | (refine clo w1 ?_)) <;> ((try simp (implicitDefEqProofs := false) [h0, h1, hw, e1, e2, e3i, hks]); (try simp (implicitDefEqProofs := false) (disch := first | assumption | (try simp only [lens]); omega -splitDisjunctions) [h0, h1, hw, e1, e2, e3i, hks]))))
      · cases b2 : withinF k.r p.r <;> rw [b2] at w2 hV
        · rw [if_neg (by simp)] at hV
          subst hV
          rcases h1 with rfl | ⟨rfl, h1⟩
          · ((refine Sg.h ?_); try repeat' ((first | (with_reducible first | refine Sg.mk ?_ | refine brA ?_ | refine brE fun _ => ?_ | (refine spl (And.intro ?_ ?_) <;> intro _)) | (refine clo hs ?_) | (refine clo w1 ?_) | (refine clo w2 ?_)) <;> ((try simp (implicitDefEqProofs := false) [h0, hw, e1, e2, e3i, hks]); (try simp (implicitDefEqProofs := false) (disch := first | assumption | (try simp only [lens]); omega -splitDisjunctions) [h0, hw, e1, e2, e3i, hks]))))
          · ((refine Sg.h ?_); try repeat' ((first | (with_reducible first | refine Sg.mk ?_ | refine brA ?_ | refine brE fun _ => ?_ | (refine spl (And.intro ?_ ?_) <;> intro _)) | (refine clo hs ?_) | (refine clo w1 ?_) | (refine clo w2 ?_)) <;> ((try simp (implicitDefEqProofs := false) [h0, h1, hw, e1, e2, e3i, hks]); (try simp (implicitDefEqProofs := false) (disch := first | assumption | (try simp only [lens]); omega -splitDisjunctions) [h0, h1, hw, e1, e2, e3i, hks]))))
        · rw [if_pos (by simp)] at hV
          subst hV
          rcases h1 with rfl | ⟨rfl, h1⟩
          · ((refine Sg.h ?_); try repeat' ((first | (with_reducible first | refine Sg.mk ?_ | refine brA ?_ | refine brE fun _ => ?_ | (refine spl (And.intro ?_ ?_) <;> intro _)) | (refine clo hs ?_) | (refine clo w1 ?_) | (refine clo w2 ?_)) <;> ((try simp (implicitDefEqProofs := false) [h0, hw, e1, e2, e3i, hks]); (try simp (implicitDefEqProofs := false) (disch := first | assumption | (try simp only [lens]); omega -splitDisjunctions) [h0, hw, e1, e2, e3i, hks]))))
          · ((refine Sg.h ?_); try repeat' ((first | (with_reducible first | refine Sg.mk ?_ | refine brA ?_ | refine brE fun _ => ?_ | (refine spl (And.intro ?_ ?_) <;> intro _)) | (refine clo hs ?_) | (refine clo w1 ?_) | (refine clo w2 ?_)) <;> ((try simp (implicitDefEqProofs := false) [h0, h1, hw, e1, e2, e3i, hks]); (try simp (implicitDefEqProofs := false) (disch := first | assumption | (try simp only [lens]); omega -splitDisjunctions) [h0, h1, hw, e1, e2, e3i, hks]))))
    · have hli : ¬ (p.kids.length : Int) = 1 := by omega
      have he : V = 9 := by
        rw [← hV]
        split
        · rename_i hks; rw [hks] at hl; simp at hl
        · rfl
      subst he
      rcases h1 with rfl | ⟨rfl, h1⟩
      · ((refine Sg.h ?_); try repeat' ((first | (with_reducible first | refine Sg.mk ?_ | refine brA ?_ | refine brE fun _ => ?_ | (refine spl (And.intro ?_ ?_) <;> intro _)) | (refine clo hs ?_)) <;> ((try simp (implicitDefEqProofs := false) [h0, hw, e1, e2, e3i, hli]); (try simp (implicitDefEqProofs := false) (disch := first | assumption | (try simp only [lens]); omega -splitDisjunctions) [h0, hw, e1, e2, e3i, hli]))))
      · ((refine Sg.h ?_); try repeat' ((first | (with_reducible first | refine Sg.mk ?_ | refine brA ?_ | refine brE fun _ => ?_ | (refine spl (And.intro ?_ ?_) <;> intro _)) | (refine clo hs ?_)) <;> ((try simp (implicitDefEqProofs := false) [h0, h1, hw, e1, e2, e3i, hli]); (try simp (implicitDefEqProofs := false) (disch := first | assumption | (try simp only [lens]); omega -splitDisjunctions) [h0, h1, hw, e1, e2, e3i, hli]))))
theorem stepCode_rule (u : Bool) (p : Pf) (hp : Sz p) (hk : ∀ k ∈ p.kids, Sz k) (h0 : (sequentF p.l p.r).1 = 0) (h1 : u = false ∨ (u = true ∧ ¬ (1 : Int) < (p.r.length : Int))) (hw : ¬ p.rule = ⟨#[119, 101, 97, 107]⟩) : CallOK Try.prog 67 [.agg (prf p), .bool u] [] (.int .i64 (stepF u p)) [] := by
  have hp1 := hp.l
  have hp2 := hp.r
  have hs := SequentFault_ref p.l p.r (by omega) (by omega)
  have hz := callOK_softA (args := [.str p.rule, .agg [.int .i64 0, .str ⟨#[]⟩, .nilsl], .agg [.list (p.l.map frm), .list (p.r.map frm)], .bool u]) (premises_ref u p.rule zF p.l p.r (by omega) (by omega) (by simp [zF])) (by
    rw [frm_eq]
    exact .cons .refl (.cons (.agg (.cons .refl (.cons .refl (.cons .nil .nil)))) (.cons .refl (.cons .refl .nil))))
  rw [prem_is] at hz
  generalize (premM u p.rule zF p.l p.r (zF.kids.headD zF) (zF.kids.getLastD zF)) = Z at hz
  have hpl := PlainFault_ref [p.f] (by simp)
  rw [plainL_one] at hpl
  generalize hV : stepF u p = V
  unfold stepF at hV
  rw [if_neg hw] at hV
  generalize sequentF p.l p.r = S0 at *
  refine fi67.op ?_
  cases hR : ruleT u p.rule with
  | none =>
    rw [hR] at hz hV
    subst hV
    rcases h1 with rfl | ⟨rfl, h1⟩
    · ((refine Sg.h ?_); try repeat' ((first | (with_reducible first | refine Sg.mk ?_ | refine brA ?_ | refine brE fun _ => ?_ | (refine spl (And.intro ?_ ?_) <;> intro _)) | (refine clo hs ?_) | (refine clo hz ?_)) <;> ((try simp (implicitDefEqProofs := false) [h0, hw]); (try simp (implicitDefEqProofs := false) (disch := first | assumption | (try simp only [lens]); omega -splitDisjunctions) [h0, hw]))))
    · ((refine Sg.h ?_); try repeat' ((first | (with_reducible first | refine Sg.mk ?_ | refine brA ?_ | refine brE fun _ => ?_ | (refine spl (And.intro ?_ ?_) <;> intro _)) | (refine clo hs ?_) | (refine clo hz ?_)) <;> ((try simp (implicitDefEqProofs := false) [h0, h1, hw]); (try simp (implicitDefEqProofs := false) (disch := first | assumption | (try simp only [lens]); omega -splitDisjunctions) [h0, h1, hw]))))
  | some e =>
    rw [hR] at hz hV
    dsimp only [Option.isSome_some] at hz hV
    by_cases h5 : (plainF p.f).1 = 0
    · rw [if_neg (by simpa using h5)] at hV
      have hA := Ar.of_plain h5
      have hkl : p.f.kids.length ≤ 2 := by
        rcases ((plainF_iff p.f).1 h5).1.seven with ⟨nm, _, h⟩ | h | h | ⟨a, _, h⟩ | ⟨a, b, _, _, h⟩ | ⟨a, b, _, _, h⟩ | ⟨a, b, _, _, h⟩ <;> rw [h] <;> simp
      have hq := premises_ref u p.rule p.f p.l p.r (by omega) (by omega) hkl
      obtain ⟨m1, m2⟩ := prem_rule hR p.f hA p.l p.r
      have hlen := ent_len hR p.f hA p.l p.r
      rw [m1] at hq
      generalize (premM u p.rule p.f p.l p.r (p.f.kids.headD zF) (p.f.kids.getLastD zF)) = M at *
      generalize e.R p.f p.l p.r = E at *
      obtain ⟨ps, b⟩ := E
      dsimp only at m1 m2 hlen hq hV
      generalize plainF p.f = P at *
      cases b with
      | false =>
        rw [if_pos rfl] at hV
        subst hV
        rcases h1 with rfl | ⟨rfl, h1⟩
        · ((refine Sg.h ?_); try repeat' ((first | (with_reducible first | refine Sg.mk ?_ | refine brA ?_ | refine brE fun _ => ?_ | (refine spl (And.intro ?_ ?_) <;> intro _)) | (refine clo hs ?_) | (refine clo hz ?_)) <;> ((try simp (implicitDefEqProofs := false) [h0, hw]); (try simp (implicitDefEqProofs := false) (disch := first | assumption | (try simp only [lens]); omega -splitDisjunctions) [h0, hw]))))
          refine CL.giv [1] ?_
          ((refine Sg.h ?_); try repeat' ((first | (with_reducible first | refine Sg.mk ?_ | refine brA ?_ | refine brE fun _ => ?_ | (refine spl (And.intro ?_ ?_) <;> intro _)) | (refine clo hpl ?_) | (refine clo hq ?_)) <;> ((try simp (implicitDefEqProofs := false) [h5]); (try simp (implicitDefEqProofs := false) (disch := first | assumption | (try simp only [lens]); omega -splitDisjunctions) [h5]))))
        · ((refine Sg.h ?_); try repeat' ((first | (with_reducible first | refine Sg.mk ?_ | refine brA ?_ | refine brE fun _ => ?_ | (refine spl (And.intro ?_ ?_) <;> intro _)) | (refine clo hs ?_) | (refine clo hz ?_)) <;> ((try simp (implicitDefEqProofs := false) [h0, h1, hw]); (try simp (implicitDefEqProofs := false) (disch := first | assumption | (try simp only [lens]); omega -splitDisjunctions) [h0, h1, hw]))))
          refine CL.giv [1] ?_
          ((refine Sg.h ?_); try repeat' ((first | (with_reducible first | refine Sg.mk ?_ | refine brA ?_ | refine brE fun _ => ?_ | (refine spl (And.intro ?_ ?_) <;> intro _)) | (refine clo hpl ?_) | (refine clo hq ?_)) <;> ((try simp (implicitDefEqProofs := false) [h5]); (try simp (implicitDefEqProofs := false) (disch := first | assumption | (try simp only [lens]); omega -splitDisjunctions) [h5]))))
      | true =>
        rw [if_neg (by simp)] at hV
        rw [m2 rfl] at hq
        have row : premRow = fun q => [.list (q.1.map frm), .list (q.2.map frm)] := rfl
        by_cases h9 : p.kids.length = ps.length
        · rw [if_neg (by simpa using h9)] at hV
          have h9i : (p.kids.length : Int) = (ps.length : Int) := by omega
          have main : W (cx67 Try.prog 0) 0 x67_L0 (KS.seq ((XC.reg [⟨some 4, .assign (.const (.int .i64 0)), none⟩]).seq XC.ret) (KS.fin [.tmp 4] fun v1 s1 => deref s1 6 v1 = .int .i64 V)) [(2, .ptr 0 0 0), (8, .list (ps.map premRow)), (11, .int .i64 0)] [.rows 7 [prf p]] := by
            clear hs hz hpl hq
            refine W_of fun Q hQ => ?_
            have key : ∀ n i, i + n = p.kids.length → (if meetB (ps.drop i) (p.kids.drop i) = true then (0 : Int) else 7) = V → Q [(2, .ptr 0 0 0), (8, .list (ps.map premRow)), (11, .int .i64 (i : Int))] [.rows 7 [prf p]] := by
              intro n
              induction n with
              | zero =>
                intro i hi he
                rw [List.drop_of_length_le (show p.kids.length ≤ i by omega), List.drop_of_length_le (show ps.length ≤ i by omega), meetB, if_pos rfl] at he
                · have hii : ¬ (i : Int) < (ps.length : Int) := by omega
                  apply hQ
                  clear hQ
                  subst he
                  ((refine Sg.h ?_); try repeat' ((first | (with_reducible first | refine Sg.mk ?_ | refine brA ?_ | refine brE fun _ => ?_ | (refine spl (And.intro ?_ ?_) <;> intro _))) <;> ((try simp (implicitDefEqProofs := false) [hii]); (try simp (implicitDefEqProofs := false) (disch := first | assumption | (try simp only [lens]); omega -splitDisjunctions) [hii]))))
                · simp
              | succ n ih =>
                intro i hi he
                have hil : i < p.kids.length := by omega
                have hip : i < ps.length := by omega
                have ih := ih (i + 1) (by omega)
                rw [List.drop_eq_getElem_cons hil, List.drop_eq_getElem_cons hip, meetB] at he
                have hl2 := hlen _ (List.getElem_mem hip)
                have hz := hk _ (List.getElem_mem hil)
                have hz1 := hz.l
                have hz2 := hz.r
                have s1 := Bag_ref ps[i].1 p.kids[i].l (by omega) (by omega)
                have s2 := Bag_ref ps[i].2 p.kids[i].r (by omega) (by omega)
                apply hQ
                clear hQ
                cases b1 : sameF ps[i].1 p.kids[i].l with
                | false =>
                  rw [b1] at s1 he
                  rw [Bool.false_and, Bool.false_and, if_neg (by simp)] at he
                  subst he
                  ((refine Sg.h ?_); try repeat' ((first | (with_reducible first | refine Sg.mk ?_ | refine brA ?_ | refine brE fun _ => ?_ | (refine spl (And.intro ?_ ?_) <;> intro _)) | (refine clo s1 ?_)) <;> ((try simp (implicitDefEqProofs := false) [hil, hip, row]); (try simp (implicitDefEqProofs := false) (disch := first | assumption | (try simp only [lens]); omega -splitDisjunctions) [hil, hip, row]))))
                | true =>
                  rw [b1] at s1 he
                  cases b2 : sameF ps[i].2 p.kids[i].r with
                  | false =>
                    rw [b2] at s2 he
                    rw [Bool.true_and, Bool.false_and, if_neg (by simp)] at he
                    subst he
                    ((refine Sg.h ?_); try repeat' ((first | (with_reducible first | refine Sg.mk ?_ | refine brA ?_ | refine brE fun _ => ?_ | (refine spl (And.intro ?_ ?_) <;> intro _)) | (refine clo s1 ?_) | (refine clo s2 ?_)) <;> ((try simp (implicitDefEqProofs := false) [hil, hip, row]); (try simp (implicitDefEqProofs := false) (disch := first | assumption | (try simp only [lens]); omega -splitDisjunctions) [hil, hip, row]))))
                  | true =>
                    rw [b2] at s2 he
                    rw [Bool.true_and, Bool.true_and] at he
                    have ih := ih he
                    ((refine Sg.h ?_); try repeat' ((first | (with_reducible first | refine Sg.mk ?_ | refine brA ?_ | refine brE fun _ => ?_ | (refine spl (And.intro ?_ ?_) <;> intro _)) | (refine clo s1 ?_) | (refine clo s2 ?_)) <;> ((try simp (implicitDefEqProofs := false) [hil, hip, row]); (try simp (implicitDefEqProofs := false) (disch := first | assumption | (try simp only [lens]); omega -splitDisjunctions) [hil, hip, row]))))
                    all_goals first | exact ih | (refine at2 ih ?_ ?_ <;> simp; done) | (exfalso; first | omega | (simp_all; done) | (simp_all; omega))
            have m0 := key _ 0 (Nat.zero_add _) (by simpa using hV)
            all_goals first | exact m0 | (refine at2 m0 ?_ ?_ <;> simp; done) | (exfalso; first | omega | (simp_all; done) | (simp_all; omega))
          rcases h1 with rfl | ⟨rfl, h1⟩
          · ((refine Sg.h ?_); try repeat' ((first | (with_reducible first | refine Sg.mk ?_ | refine brA ?_ | refine brE fun _ => ?_ | (refine spl (And.intro ?_ ?_) <;> intro _)) | (refine clo hs ?_) | (refine clo hz ?_)) <;> ((try simp (implicitDefEqProofs := false) [h0, hw]); (try simp (implicitDefEqProofs := false) (disch := first | assumption | (try simp only [lens]); omega -splitDisjunctions) [h0, hw]))))
            refine CL.giv [1] ?_
            ((refine Sg.h ?_); try repeat' ((first | (with_reducible first | refine Sg.mk ?_ | refine brA ?_ | refine brE fun _ => ?_ | (refine spl (And.intro ?_ ?_) <;> intro _)) | (refine clo hpl ?_) | (refine clo hq ?_)) <;> ((try simp (implicitDefEqProofs := false) [h5, h9i]); (try simp (implicitDefEqProofs := false) (disch := first | assumption | (try simp only [lens]); omega -splitDisjunctions) [h5, h9i]))))
            all_goals exact main
          · ((refine Sg.h ?_); try repeat' ((first | (with_reducible first | refine Sg.mk ?_ | refine brA ?_ | refine brE fun _ => ?_ | (refine spl (And.intro ?_ ?_) <;> intro _)) | (refine clo hs ?_) | (refine clo hz ?_)) <;> ((try simp (implicitDefEqProofs := false) [h0, h1, hw]); (try simp (implicitDefEqProofs := false) (disch := first | assumption | (try simp only [lens]); omega -splitDisjunctions) [h0, h1, hw]))))
            refine CL.giv [1] ?_
            ((refine Sg.h ?_); try repeat' ((first | (with_reducible first | refine Sg.mk ?_ | refine brA ?_ | refine brE fun _ => ?_ | (refine spl (And.intro ?_ ?_) <;> intro _)) | (refine clo hpl ?_) | (refine clo hq ?_)) <;> ((try simp (implicitDefEqProofs := false) [h5, h9i]); (try simp (implicitDefEqProofs := false) (disch := first | assumption | (try simp only [lens]); omega -splitDisjunctions) [h5, h9i]))))
            all_goals exact main
        · rw [if_pos h9] at hV
          have h9i : ¬ (p.kids.length : Int) = (ps.length : Int) := by omega
          subst hV
          rcases h1 with rfl | ⟨rfl, h1⟩
          · ((refine Sg.h ?_); try repeat' ((first | (with_reducible first | refine Sg.mk ?_ | refine brA ?_ | refine brE fun _ => ?_ | (refine spl (And.intro ?_ ?_) <;> intro _)) | (refine clo hs ?_) | (refine clo hz ?_)) <;> ((try simp (implicitDefEqProofs := false) [h0, hw]); (try simp (implicitDefEqProofs := false) (disch := first | assumption | (try simp only [lens]); omega -splitDisjunctions) [h0, hw]))))
            refine CL.giv [1] ?_
            ((refine Sg.h ?_); try repeat' ((first | (with_reducible first | refine Sg.mk ?_ | refine brA ?_ | refine brE fun _ => ?_ | (refine spl (And.intro ?_ ?_) <;> intro _)) | (refine clo hpl ?_) | (refine clo hq ?_)) <;> ((try simp (implicitDefEqProofs := false) [h5, h9i]); (try simp (implicitDefEqProofs := false) (disch := first | assumption | (try simp only [lens]); omega -splitDisjunctions) [h5, h9i]))))
          · ((refine Sg.h ?_); try repeat' ((first | (with_reducible first | refine Sg.mk ?_ | refine brA ?_ | refine brE fun _ => ?_ | (refine spl (And.intro ?_ ?_) <;> intro _)) | (refine clo hs ?_) | (refine clo hz ?_)) <;> ((try simp (implicitDefEqProofs := false) [h0, h1, hw]); (try simp (implicitDefEqProofs := false) (disch := first | assumption | (try simp only [lens]); omega -splitDisjunctions) [h0, h1, hw]))))
            refine CL.giv [1] ?_
            ((refine Sg.h ?_); try repeat' ((first | (with_reducible first | refine Sg.mk ?_ | refine brA ?_ | refine brE fun _ => ?_ | (refine spl (And.intro ?_ ?_) <;> intro _)) | (refine clo hpl ?_) | (refine clo hq ?_)) <;> ((try simp (implicitDefEqProofs := false) [h5, h9i]); (try simp (implicitDefEqProofs := false) (disch := first | assumption | (try simp only [lens]); omega -splitDisjunctions) [h5, h9i]))))
    · rw [if_pos (by simpa using h5)] at hV
      subst hV
      generalize plainF p.f = P at *
      rcases h1 with rfl | ⟨rfl, h1⟩
      · ((refine Sg.h ?_); try repeat' ((first | (with_reducible first | refine Sg.mk ?_ | refine brA ?_ | refine brE fun _ => ?_ | (refine spl (And.intro ?_ ?_) <;> intro _)) | (refine clo hs ?_) | (refine clo hz ?_)) <;> ((try simp (implicitDefEqProofs := false) [h0, hw]); (try simp (implicitDefEqProofs := false) (disch := first | assumption | (try simp only [lens]); omega -splitDisjunctions) [h0, hw]))))
        refine CL.giv [1] ?_
        ((refine Sg.h ?_); try repeat' ((first | (with_reducible first | refine Sg.mk ?_ | refine brA ?_ | refine brE fun _ => ?_ | (refine spl (And.intro ?_ ?_) <;> intro _)) | (refine clo hpl ?_)) <;> ((try simp (implicitDefEqProofs := false) [h5]); (try simp (implicitDefEqProofs := false) (disch := first | assumption | (try simp only [lens]); omega -splitDisjunctions) [h5]))))
      · ((refine Sg.h ?_); try repeat' ((first | (with_reducible first | refine Sg.mk ?_ | refine brA ?_ | refine brE fun _ => ?_ | (refine spl (And.intro ?_ ?_) <;> intro _)) | (refine clo hs ?_) | (refine clo hz ?_)) <;> ((try simp (implicitDefEqProofs := false) [h0, h1, hw]); (try simp (implicitDefEqProofs := false) (disch := first | assumption | (try simp only [lens]); omega -splitDisjunctions) [h0, h1, hw]))))
        refine CL.giv [1] ?_
        ((refine Sg.h ?_); try repeat' ((first | (with_reducible first | refine Sg.mk ?_ | refine brA ?_ | refine brE fun _ => ?_ | (refine spl (And.intro ?_ ?_) <;> intro _)) | (refine clo hpl ?_)) <;> ((try simp (implicitDefEqProofs := false) [h5]); (try simp (implicitDefEqProofs := false) (disch := first | assumption | (try simp only [lens]); omega -splitDisjunctions) [h5]))))
theorem stepCode_ref (u : Bool) (p : Pf) (hp : Sz p) (hk : ∀ k ∈ p.kids, Sz k) : CallOK Try.prog 67 [.agg (prf p), .bool u] [] (.int .i64 (codeF u p)) [] := by
  unfold codeF
  by_cases h0 : (sequentF p.l p.r).1 = 0
  · by_cases h4 : u = true ∧ 1 < p.r.length
    · rw [if_pos (.inr h4)]
      obtain ⟨rfl, h4⟩ := h4
      have hp1 := hp.l
      have hp2 := hp.r
      have hs := SequentFault_ref p.l p.r (by omega) (by omega)
      have h4i : (1 : Int) < (p.r.length : Int) := by omega
      generalize sequentF p.l p.r = S0 at *
      refine fi67.op ?_
      ((refine Sg.h ?_); try repeat' ((first | (with_reducible first | refine Sg.mk ?_ | refine brA ?_ | refine brE fun _ => ?_ | (refine spl (And.intro ?_ ?_) <;> intro _)) | (refine clo hs ?_)) <;> ((try simp (implicitDefEqProofs := false) [h0, h4i]); (try simp (implicitDefEqProofs := false) (disch := first | assumption | (try simp only [lens]); omega -splitDisjunctions) [h0, h4i]))))
    · rw [if_neg (by rintro (h | h); exact h h0; exact h4 h)]
      have h1 : u = false ∨ (u = true ∧ ¬ (1 : Int) < (p.r.length : Int)) := by
        cases u with
        | false => exact .inl rfl
        | true => exact .inr ⟨rfl, fun h => h4 ⟨rfl, by omega⟩⟩
      by_cases hw : p.rule = ⟨#[119, 101, 97, 107]⟩
      · exact stepCode_weak u p hp hk h0 h1 hw
      · exact stepCode_rule u p hp hk h0 h1 hw
  · rw [if_pos (.inl h0)]
    have hp1 := hp.l
    have hp2 := hp.r
    have hs := SequentFault_ref p.l p.r (by omega) (by omega)
    generalize sequentF p.l p.r = S0 at *
    refine fi67.op ?_
    ((refine Sg.h ?_); try repeat' ((first | (with_reducible first | refine Sg.mk ?_ | refine brA ?_ | refine brE fun _ => ?_ | (refine spl (And.intro ?_ ?_) <;> intro _)) | (refine clo hs ?_)) <;> ((try simp (implicitDefEqProofs := false) [h0]); (try simp (implicitDefEqProofs := false) (disch := first | assumption | (try simp only [lens]); omega -splitDisjunctions) [h0]))))
end Go.Proofs.Ytnoklmapofogeaa
namespace Go.Proofs.Ytnoklmapofogeaa
open Go Go.Pv
set_option linter.unusedVariables false
set_option linter.unusedSimpArgs false
set_option maxRecDepth 100000
set_option maxHeartbeats 4000000

theorem preD_szs (p : Pf) : ∀ d, Szs p → ∀ x ∈ preD p d, Szs x.1 := by
  induction p using Pf.ind with
  | h p ih =>
    intro d hp x hx
    rw [preD_eq] at hx
    rcases List.mem_cons.1 hx with rfl | hx
    · exact hp
    · split at hx
      · rw [preDs_eq] at hx
        obtain ⟨k, hk, hx⟩ := List.mem_flatMap.1 hx
        exact ih k hk _ (hp.kid hk) x hx
      · cases hx
def x29_T1 : XC := .seq (.reg [⟨some 41,.build 33 #[],none⟩,⟨none,.store 33 (.tmp 4) (.tmp 41),none⟩]) (.ret)
def x29_L0 : XC := .seq (.seq (.reg [⟨some 14,.move (.tmp 7),none⟩,⟨some 15,.move (.tmp 5),none⟩,⟨some 16,.call ⟨.builtin .len,#[.tmp 15],#[27]⟩,none⟩,⟨some 17,.binOp .lss 3 (.tmp 14) (.tmp 16) 3,none⟩]) (.cond (.tmp 17) (.skip) (.exit 0))) (.seq (.block 1 (.seq (.seq (.reg [⟨some 20,.move (.tmp 7),none⟩,⟨some 21,.binOp .eql 3 (.tmp 20) (.const (.int .i64 20000)) 3,none⟩,⟨some 22,.move (.tmp 21),none⟩,⟨some 23,.move (.tmp 6),some (some 22,false)⟩,⟨some 24,.move (.tmp 7),some (some 22,false)⟩,⟨some 25,.indexAddr 43 (.tmp 23) (.tmp 24),some (some 22,false)⟩,⟨some 26,.load 3 (.tmp 25),some (some 22,false)⟩,⟨some 27,.binOp .gtr 3 (.tmp 26) (.const (.int .i64 400)) 3,some (some 22,false)⟩,⟨some 28,.pick (.tmp 22) (.const (.bool true)) (.tmp 27),none⟩]) (.cond (.tmp 28) (.seq (.reg [⟨some 29,.call ⟨.value (.func 38),#[.const (.int .i64 2),.const (.int .i64 0)],#[3,3]⟩,none⟩,⟨none,.store 33 (.tmp 4) (.tmp 29),none⟩]) (.ret)) (.skip))) (.seq (.reg [⟨some 30,.move (.tmp 5),none⟩,⟨some 31,.move (.tmp 7),none⟩,⟨some 32,.indexAddr 27 (.tmp 30) (.tmp 31),none⟩,⟨some 33,.load 29 (.tmp 32),none⟩,⟨some 34,.move (.tmp 1),none⟩,⟨some 35,.call ⟨.value (.func 67),#[.tmp 33,.tmp 34],#[29,4]⟩,none⟩,⟨some 8,.assign (.tmp 35),none⟩]) (.seq (.reg [⟨some 36,.move (.tmp 8),none⟩,⟨some 37,.binOp .neq 3 (.tmp 36) (.const (.int .i64 0)) 3,none⟩]) (.cond (.tmp 37) (.seq (.reg [⟨some 38,.move (.tmp 8),none⟩,⟨some 39,.move (.tmp 7),none⟩,⟨some 40,.call ⟨.value (.func 38),#[.tmp 38,.tmp 39],#[3,3]⟩,none⟩,⟨none,.store 33 (.tmp 4) (.tmp 40),none⟩]) (.ret)) (.skip)))))) (.reg [⟨some 18,.move (.tmp 7),none⟩,⟨some 19,.binOp .add 3 (.tmp 18) (.const (.int .i64 1)) 3,none⟩,⟨some 7,.assign (.tmp 19),none⟩]))
def x29 : XC := .seq (.reg [⟨some 2,.box 29 (.tmp 0),none⟩,⟨some 4,.alloc 33,none⟩]) (.seq (.reg [⟨some 10,.load 29 (.tmp 2),none⟩,⟨some 11,.call ⟨.value (.func 23),#[.tmp 10,.const (.int .i64 1),.const (.int .i64 20001)],#[29,3,3]⟩,none⟩,⟨some 9,.move (.tmp 11),none⟩,⟨some 12,.extract (.tmp 9) 0,none⟩,⟨some 13,.extract (.tmp 9) 1,none⟩,⟨some 5,.assign (.tmp 12),none⟩,⟨some 6,.assign (.tmp 13),none⟩]) (.seq (.seq (.reg [⟨some 7,.assign (.const (.int .i64 0)),none⟩]) (.bloop 0 x29_L0)) (x29_T1)))
@[simp] theorem x29_s {C : WC} {e : AE} {s : Store} {K : KS} : type_of% (@X_at C e s K _ _ x29_T1.eq_1) ∧ type_of% (@X_at C e s K _ _ x29_L0.eq_1) ∧ type_of% (@X_at C e s K _ _ x29.eq_1) := ⟨X_at x29_T1.eq_1, X_at x29_L0.eq_1, X_at x29.eq_1⟩
def an29 : Ann := ⟨[], [(0, [], [1, 4, 5, 6, 7], [4])], []⟩
def cx29 (P : Program) (m : Nat) : WC := ⟨P, m, an29⟩
@[simp] theorem cx29_a {P : Program} {m : Nat} : (cx29 P m).P = P ∧ (cx29 P m).m = m ∧ (cx29 P m).A.loopOf 0 = ([], [1, 4, 5, 6, 7], [4]) := ⟨rfl, rfl, rfl⟩
instance {P : Program} {m f : Nat} [h : EnT P f] : EnT (cx29 P m).P f := h
theorem fi29 : FI Try.prog 29 cx29 x29 [.cell 4 33] Try.f29 := fiOf (fun _ _ => rfl) (by decide +kernel) Try.func29 (by kernel_rfl) (by kernel_rfl) mixed

theorem ProofFault_ref (u : Bool) (p : Pf) (hp : Szs p) : CallOK Try.prog 29 [.agg (prf p), .bool u] [] (.agg [.int .i64 (checkF u p).1, .int .i64 (checkF u p).2]) [] := by
  have h1 := Steps_ref p hp 1 20001 (by decide) (by decide) (by decide)
  have hz : ∀ x ∈ (preD p 1).take 20002, Szs x.1 := fun x hx => preD_szs p 1 hp x (List.mem_of_mem_take hx)
  have hV : (scanF u ((preD p 1).take 20002) 0).2 = checkF u p := by rw [check_scan, scanF_take u _ 0 20002 (by decide) (by decide)]
  have hf := F_ref 2 0
  rw [show 20001 + 1 = 20002 from rfl] at h1
  have hl : ((preD p 1).take 20002).length ≤ 20002 := List.length_take_le _ _
  generalize checkF u p = V at *
  generalize (preD p 1).take 20002 = L at *
  refine fi29.op ?_
  ((refine Sg.h ?_); try repeat' ((first | (with_reducible first | refine Sg.mk ?_ | refine brA ?_ | refine brE fun _ => ?_ | (refine spl (And.intro ?_ ?_) <;> intro _)) | (refine clo h1 ?_)) <;> ((try simp (implicitDefEqProofs := false)); (try simp (implicitDefEqProofs := false) (disch := first | assumption | (try simp only [lens]); omega -splitDisjunctions)))))
  refine W_of fun Q hQ => ?_
  have main : ∀ n i, i + n = L.length → i ≤ 20000 → (scanF u (L.drop i) i).2 = V → Q [(1, .bool u), (4, .ptr 0 0 0), (5, .list (L.map stpRow)), (6, .list (L.map depRow)), (7, .int .i64 (i : Int))] [.rows 2 [[.int .i64 0, .int .i64 0]]] := by
    intro n
    induction n with
    | zero =>
      intro i hi hi2 he
      rw [List.drop_of_length_le (by omega), scanF] at he
      have hii : ¬ (i : Int) < (L.length : Int) := by omega
      apply hQ
      clear hQ
      subst he
      ((refine Sg.h ?_); try repeat' ((first | (with_reducible first | refine Sg.mk ?_ | refine brA ?_ | refine brE fun _ => ?_ | (refine spl (And.intro ?_ ?_) <;> intro _))) <;> ((try simp (implicitDefEqProofs := false) [hii]); (try simp (implicitDefEqProofs := false) (disch := first | assumption | (try simp only [lens]); omega -splitDisjunctions) [hii]))))
    | succ n ih =>
      intro i hi hi2 he
      have hil : i < L.length := by omega
      have ih := ih (i + 1) (by omega)
      have hzi := hz _ (List.getElem_mem hil)
      have hc := stepCode_ref u L[i].1 hzi.sz (fun k hk => (hzi.kid hk).sz)
      have hf2 := F_ref (codeF u L[i].1) (i : Int)
      rw [List.drop_eq_getElem_cons hil, scanF] at he
      apply hQ
      clear hQ
      by_cases h20 : i = 20000
      · subst h20
        rw [if_pos (.inl (by omega))] at he
        subst he
        ((refine Sg.h ?_); try repeat' ((first | (with_reducible first | refine Sg.mk ?_ | refine brA ?_ | refine brE fun _ => ?_ | (refine spl (And.intro ?_ ?_) <;> intro _)) | (refine clo hf ?_)) <;> ((try simp (implicitDefEqProofs := false) [hil]); (try simp (implicitDefEqProofs := false) (disch := first | assumption | (try simp only [lens]); omega -splitDisjunctions) [hil]))))
      · have h20i : ¬ (i : Int) = 20000 := by omega
        by_cases h4 : 400 < L[i].2
        · rw [if_pos (.inr h4)] at he
          subst he
          ((refine Sg.h ?_); try repeat' ((first | (with_reducible first | refine Sg.mk ?_ | refine brA ?_ | refine brE fun _ => ?_ | (refine spl (And.intro ?_ ?_) <;> intro _)) | (refine clo hf ?_)) <;> ((try simp (implicitDefEqProofs := false) [hil, h20i, h4]); (try simp (implicitDefEqProofs := false) (disch := first | assumption | (try simp only [lens]); omega -splitDisjunctions) [hil, h20i, h4]))))
        · rw [if_neg (by omega)] at he
          have e2 : (if (sequentF L[i].1.l L[i].1.r).1 ≠ 0 ∨ (u = true ∧ 1 < L[i].1.r.length) then (i + 1, (5, (i : Int))) else if stepF u L[i].1 ≠ 0 then (i + 1, (stepF u L[i].1, (i : Int))) else scanF u (L.drop (i + 1)) (i + 1)) = if codeF u L[i].1 ≠ 0 then (i + 1, (codeF u L[i].1, (i : Int))) else scanF u (L.drop (i + 1)) (i + 1) := by
            unfold codeF
            split <;> simp
          rw [e2] at he
          generalize codeF u L[i].1 = c at *
          by_cases h0 : c = 0
          · rw [if_neg (by simpa using h0)] at he
            have ih := ih (by omega) he
            ((refine Sg.h ?_); try repeat' ((first | (with_reducible first | refine Sg.mk ?_ | refine brA ?_ | refine brE fun _ => ?_ | (refine spl (And.intro ?_ ?_) <;> intro _)) | (refine clo hc ?_)) <;> ((try simp (implicitDefEqProofs := false) [hil, h20i, h4, h0]); (try simp (implicitDefEqProofs := false) (disch := first | assumption | (try simp only [lens]); omega -splitDisjunctions) [hil, h20i, h4, h0]))))
            all_goals first | exact ih | (refine at2 ih ?_ ?_ <;> simp; done) | (exfalso; first | omega | (simp_all; done) | (simp_all; omega))
          · rw [if_pos h0] at he
            subst he
            ((refine Sg.h ?_); try repeat' ((first | (with_reducible first | refine Sg.mk ?_ | refine brA ?_ | refine brE fun _ => ?_ | (refine spl (And.intro ?_ ?_) <;> intro _)) | (refine clo hc ?_) | (refine clo hf2 ?_)) <;> ((try simp (implicitDefEqProofs := false) [hil, h20i, h4, h0]); (try simp (implicitDefEqProofs := false) (disch := first | assumption | (try simp only [lens]); omega -splitDisjunctions) [hil, h20i, h4, h0]))))
  have m0 := main _ 0 (Nat.zero_add _) (by decide) (by simpa using hV)
  all_goals first | exact m0 | (refine at2 m0 ?_ ?_ <;> simp; done) | (exfalso; first | omega | (simp_all; done) | (simp_all; omega))
def cutN (l : List Pf) : Nat := l.countP fun p => decide (p.rule = ⟨#[99, 117, 116]⟩)
theorem cutN_append (a b : List Pf) : cutN (a ++ b) = cutN a + cutN b := List.countP_append
theorem cutN_steps (p : Pf) : cutN (stepsP p) = cutsP p := by
  induction p using Pf.ind with
  | h p ih =>
    rw [cutsP_eq, stepsP_eq]
    have key : ∀ ks : List Pf, (∀ k ∈ ks, k ∈ p.kids) → cutN (ks.flatMap stepsP) = cutsL ks := by
      intro ks
      induction ks with
      | nil => intro _; rfl
      | cons k r ihr =>
        intro hm
        rw [List.flatMap_cons, cutN_append, ih k (hm k (.head _)), ihr fun k hk => hm k (.tail _ hk), cutsL]
    rw [← key _ fun k hk => hk, show cutN (p :: p.kids.flatMap stepsP) = cutN [p] + cutN (p.kids.flatMap stepsP) from cutN_append [p] _]
    congr 1
    unfold cutN
    rw [List.countP_cons, List.countP_nil]
    by_cases h : p.rule = ⟨#[99, 117, 116]⟩ <;> simp [h]
def x32_T1 : XC := .seq (.reg [⟨some 26,.move (.tmp 5),none⟩,⟨some 2,.assign (.tmp 26),none⟩]) (.ret)
def x32_L0 : XC := .seq (.seq (.reg [⟨some 12,.move (.tmp 6),none⟩,⟨some 13,.move (.tmp 3),none⟩,⟨some 14,.call ⟨.builtin .len,#[.tmp 13],#[27]⟩,none⟩,⟨some 15,.binOp .lss 3 (.tmp 12) (.tmp 14) 3,none⟩]) (.cond (.tmp 15) (.skip) (.exit 0))) (.seq (.block 1 (.seq (.reg [⟨some 18,.move (.tmp 3),none⟩,⟨some 19,.move (.tmp 6),none⟩,⟨some 20,.indexAddr 27 (.tmp 18) (.tmp 19),none⟩,⟨some 21,.fieldAddr 29 (.tmp 20) 0,none⟩,⟨some 22,.load 9 (.tmp 21),none⟩,⟨some 23,.binOp .eql 9 (.tmp 22) (.const (.string ⟨#[99,117,116]⟩)) 9,none⟩]) (.cond (.tmp 23) (.reg [⟨some 24,.move (.tmp 5),none⟩,⟨some 25,.binOp .add 3 (.tmp 24) (.const (.int .i64 1)) 3,none⟩,⟨some 5,.assign (.tmp 25),none⟩]) (.skip)))) (.reg [⟨some 16,.move (.tmp 6),none⟩,⟨some 17,.binOp .add 3 (.tmp 16) (.const (.int .i64 1)) 3,none⟩,⟨some 6,.assign (.tmp 17),none⟩]))
def x32 : XC := .seq (.reg [⟨some 1,.box 29 (.tmp 0),none⟩,⟨some 2,.assign (.const (.int .i64 0)),none⟩]) (.seq (.reg [⟨some 8,.load 29 (.tmp 1),none⟩,⟨some 9,.call ⟨.value (.func 23),#[.tmp 8,.const (.int .i64 1),.const (.int .i64 20001)],#[29,3,3]⟩,none⟩,⟨some 7,.move (.tmp 9),none⟩,⟨some 10,.extract (.tmp 7) 0,none⟩,⟨some 11,.extract (.tmp 7) 1,none⟩,⟨some 3,.assign (.tmp 10),none⟩,⟨some 4,.assign (.tmp 11),none⟩]) (.seq (.reg [⟨some 5,.assign (.const (.int .i64 0)),none⟩]) (.seq (.seq (.reg [⟨some 6,.assign (.const (.int .i64 0)),none⟩]) (.bloop 0 x32_L0)) (x32_T1))))
@[simp] theorem x32_s {C : WC} {e : AE} {s : Store} {K : KS} : type_of% (@X_at C e s K _ _ x32_T1.eq_1) ∧ type_of% (@X_at C e s K _ _ x32_L0.eq_1) ∧ type_of% (@X_at C e s K _ _ x32.eq_1) := ⟨X_at x32_T1.eq_1, X_at x32_L0.eq_1, X_at x32.eq_1⟩
def an32 : Ann := ⟨[], [(0, [], [3, 5, 6], [5])], []⟩
def cx32 (P : Program) (m : Nat) : WC := ⟨P, m, an32⟩
@[simp] theorem cx32_a {P : Program} {m : Nat} : (cx32 P m).P = P ∧ (cx32 P m).m = m ∧ (cx32 P m).A.loopOf 0 = ([], [3, 5, 6], [5]) := ⟨rfl, rfl, rfl⟩
instance {P : Program} {m f : Nat} [h : EnT P f] : EnT (cx32 P m).P f := h
theorem fi32 : FI Try.prog 32 cx32 x32 [.tmp 2] Try.f32 := fiOf (fun _ _ => rfl) (by decide +kernel) Try.func32 (by kernel_rfl) (by kernel_rfl) mixed

theorem CutsIn_ref (u : Bool) (p : Pf) (hp : Szs p) (hc : (checkF u p).1 = 0) : CallOK Try.prog 32 [.agg (prf p)] [] (.int .i64 (cutsP p : Int)) [] := by
  have h1 := Steps_ref p hp 1 20001 (by decide) (by decide) (by decide)
  obtain ⟨s1, s2, s3⟩ := check_steps hc
  have hl : (preD p 1).length = (stepsP p).length := by rw [← s1, List.length_map]
  rw [List.take_of_length_le (by omega)] at h1
  have he : (preD p 1).map stpRow = (stepsP p).map prf := by rw [← s1, List.map_map]; rfl
  rw [he] at h1
  rw [← cutN_steps]
  generalize (preD p 1).map depRow = D at *
  generalize stepsP p = S at *
  refine fi32.op ?_
  ((refine Sg.h ?_); try repeat' ((first | (with_reducible first | refine Sg.mk ?_ | refine brA ?_ | refine brE fun _ => ?_ | (refine spl (And.intro ?_ ?_) <;> intro _)) | (refine clo h1 ?_)) <;> ((try simp (implicitDefEqProofs := false)); (try simp (implicitDefEqProofs := false) (disch := first | assumption | (try simp only [lens]); omega -splitDisjunctions)))))
  refine W_of fun Q hQ => ?_
  have main : ∀ n i, i + n = S.length → Q [(3, .list (S.map prf)), (5, .int .i64 (cutN (S.take i) : Int)), (6, .int .i64 (i : Int))] [] := by
    intro n
    induction n with
    | zero =>
      intro i hi
      obtain rfl : i = S.length := by omega
      rw [List.take_length]
      generalize cutN S = c at *
      apply hQ
      clear hQ
      ((refine Sg.h ?_); try repeat' ((first | (with_reducible first | refine Sg.mk ?_ | refine brA ?_ | refine brE fun _ => ?_ | (refine spl (And.intro ?_ ?_) <;> intro _))) <;> ((try simp (implicitDefEqProofs := false)); (try simp (implicitDefEqProofs := false) (disch := first | assumption | (try simp only [lens]); omega -splitDisjunctions)))))
    | succ n ih =>
      intro i hi
      have hil : i < S.length := by omega
      have ih := ih (i + 1) (by omega)
      have hle : cutN (S.take i) ≤ i := Nat.le_trans List.countP_le_length (by rw [List.length_take]; omega)
      rw [take_snoc hil, cutN_append] at ih
      have e1 : cutN [S[i]] = if S[i].rule = ⟨#[99, 117, 116]⟩ then 1 else 0 := by
        unfold cutN; rw [List.countP_cons, List.countP_nil]
        by_cases h : S[i].rule = ⟨#[99, 117, 116]⟩ <;> simp [h]
      rw [e1] at ih
      generalize cutN (S.take i) = c at *
      apply hQ
      clear hQ
      by_cases hr : S[i].rule = ⟨#[99, 117, 116]⟩
      · rw [if_pos hr] at ih
        ((refine Sg.h ?_); try repeat' ((first | (with_reducible first | refine Sg.mk ?_ | refine brA ?_ | refine brE fun _ => ?_ | (refine spl (And.intro ?_ ?_) <;> intro _))) <;> ((try simp (implicitDefEqProofs := false) [hil, hr]); (try simp (implicitDefEqProofs := false) (disch := first | assumption | (try simp only [lens]); omega -splitDisjunctions) [hil, hr]))))
        all_goals first | exact ih | (refine at2 ih ?_ ?_ <;> simp; done) | (exfalso; first | omega | (simp_all; done) | (simp_all; omega))
      · rw [if_neg hr] at ih
        ((refine Sg.h ?_); try repeat' ((first | (with_reducible first | refine Sg.mk ?_ | refine brA ?_ | refine brE fun _ => ?_ | (refine spl (And.intro ?_ ?_) <;> intro _))) <;> ((try simp (implicitDefEqProofs := false) [hil, hr]); (try simp (implicitDefEqProofs := false) (disch := first | assumption | (try simp only [lens]); omega -splitDisjunctions) [hil, hr]))))
        all_goals first | exact ih | (refine at2 ih ?_ ?_ <;> simp; done) | (exfalso; first | omega | (simp_all; done) | (simp_all; omega))
  have m0 := main _ 0 (Nat.zero_add _)
  all_goals first | exact m0 | (refine at2 m0 ?_ ?_ <;> simp; done) | (exfalso; first | omega | (simp_all; done) | (simp_all; omega))
end Go.Proofs.Ytnoklmapofogeaa
namespace Go.Proofs.Ytnoklmapofogeaa
open Go Go.Pv
set_option linter.unusedVariables false
set_option linter.unusedSimpArgs false
set_option maxRecDepth 100000
set_option maxHeartbeats 4000000

def x51_L0 : XC := .seq (.seq (.reg [⟨some 11,.move (.tmp 5),none⟩,⟨some 12,.move (.tmp 0),none⟩,⟨some 13,.call ⟨.builtin .len,#[.tmp 12],#[22]⟩,none⟩,⟨some 14,.binOp .lss 3 (.tmp 11) (.tmp 13) 3,none⟩]) (.cond (.tmp 14) (.skip) (.exit 0))) (.seq (.block 1 (.seq (.drawn 6 [⟨some 17,.move (.tmp 0),none⟩,⟨some 18,.move (.tmp 5),none⟩,⟨some 19,.indexAddr 22 (.tmp 17) (.tmp 18),none⟩,⟨some 20,.load 24 (.tmp 19),none⟩,⟨some 21,.move (.tmp 1),none⟩,⟨some 22,.move (.tmp 5),none⟩,⟨some 23,.indexAddr 22 (.tmp 21) (.tmp 22),none⟩,⟨some 24,.load 24 (.tmp 23),none⟩,⟨some 25,.call ⟨.value (.func 71),#[.tmp 20,.tmp 24],#[24,24]⟩,none⟩,⟨some 26,.unOp .not 4 (.tmp 25),none⟩]) (.cond (.tmp 26) (.seq (.reg [⟨some 4,.assign (.const (.bool false)),none⟩]) (.ret)) (.skip)))) (.reg [⟨some 15,.move (.tmp 5),none⟩,⟨some 16,.binOp .add 3 (.tmp 15) (.const (.int .i64 1)) 3,none⟩,⟨some 5,.assign (.tmp 16),none⟩]))
def x51 : XC := .seq (.reg [⟨some 4,.assign (.const (.bool false)),none⟩]) (.seq (.seq (.reg [⟨some 6,.move (.tmp 0),none⟩,⟨some 7,.call ⟨.builtin .len,#[.tmp 6],#[22]⟩,none⟩,⟨some 8,.move (.tmp 1),none⟩,⟨some 9,.call ⟨.builtin .len,#[.tmp 8],#[22]⟩,none⟩,⟨some 10,.binOp .neq 3 (.tmp 7) (.tmp 9) 3,none⟩]) (.cond (.tmp 10) (.seq (.reg [⟨some 4,.assign (.const (.bool false)),none⟩]) (.ret)) (.skip))) (.seq (.seq (.reg [⟨some 5,.assign (.const (.int .i64 0)),none⟩]) (.bloop 0 x51_L0)) (.seq (.reg [⟨some 4,.assign (.const (.bool true)),none⟩]) (.ret))))
@[simp] theorem x51_s {C : WC} {e : AE} {s : Store} {K : KS} : type_of% (@X_at C e s K _ _ x51_L0.eq_1) ∧ type_of% (@X_at C e s K _ _ x51.eq_1) := ⟨X_at x51_L0.eq_1, X_at x51.eq_1⟩
def an51 : Ann := ⟨[(6, .mix 8)], [(0, [], [0, 1, 5], [4])], []⟩
def cx51 (P : Program) (m : Nat) : WC := ⟨P, m, an51⟩
@[simp] theorem cx51_a {P : Program} {m : Nat} : (cx51 P m).P = P ∧ (cx51 P m).m = m ∧ (cx51 P m).A.clsOf 6 = .mix 8 ∧ (cx51 P m).A.frzOf 6 = [] ∧ (cx51 P m).A.loopOf 0 = ([], [0, 1, 5], [4]) := ⟨rfl, rfl, rfl, rfl, rfl⟩
instance {P : Program} {m f : Nat} [h : EnT P f] : EnT (cx51 P m).P f := h
theorem fi51 : FI Try.prog 51 cx51 x51 [.tmp 4] Try.f51 := fiOf (fun _ _ => rfl) (by decide +kernel) Try.func51 (by kernel_rfl) (by kernel_rfl) mixed

theorem Alike_self (l : List Fm) : CallOK Try.prog 51 [.list (l.map frm), .list (l.map frm)] [] (.bool true) [] := by
  refine fi51.op ?_
  ((refine Sg.h ?_); try repeat' ((first | (with_reducible first | refine Sg.mk ?_ | refine brA ?_ | refine brE fun _ => ?_ | (refine spl (And.intro ?_ ?_) <;> intro _))) <;> ((try simp (implicitDefEqProofs := false)); (try simp (implicitDefEqProofs := false) (disch := first | assumption | (try simp only [lens]); omega -splitDisjunctions)))))
  refine W_of fun Q hQ => ?_
  have main : ∀ n i, i + n = l.length → Q [(0, .list (l.map frm)), (1, .list (l.map frm)), (5, .int .i64 (i : Int))] [] := by
    intro n
    induction n with
    | zero =>
      intro i hi
      apply hQ
      clear hQ
      ((refine Sg.h ?_); try repeat' ((first | (with_reducible first | refine Sg.mk ?_ | refine brA ?_ | refine brE fun _ => ?_ | (refine spl (And.intro ?_ ?_) <;> intro _))) <;> ((try simp (implicitDefEqProofs := false)); (try simp (implicitDefEqProofs := false) (disch := first | assumption | (try simp only [lens]); omega -splitDisjunctions)))))
    | succ n ih =>
      intro i hi
      have hil : i < l.length := by omega
      have ih := ih (i + 1) (by omega)
      have hc := Same_ref l[i] l[i]
      rw [sameB_iff.2 rfl] at hc
      apply hQ
      clear hQ
      ((refine Sg.h ?_); try repeat' ((first | (with_reducible first | refine Sg.mk ?_ | refine brA ?_ | refine brE fun _ => ?_ | (refine spl (And.intro ?_ ?_) <;> intro _)) | (refine clo hc ?_)) <;> ((try simp (implicitDefEqProofs := false) [hil]); (try simp (implicitDefEqProofs := false) (disch := first | assumption | (try simp only [lens]); omega -splitDisjunctions) [hil]))))
      all_goals first | exact ih | (refine at2 ih ?_ ?_ <;> simp; done) | (exfalso; first | omega | (simp_all; done) | (simp_all; omega))
  all_goals first | exact main _ 0 (Nat.zero_add _) | (refine at2 main _ 0 (Nat.zero_add _) ?_ ?_ <;> simp; done) | (exfalso; first | omega | (simp_all; done) | (simp_all; omega))
def x31_L0 : XC := .seq (.seq (.reg [⟨some 48,.move (.tmp 5),none⟩,⟨some 49,.fieldAddr 29 (.tmp 2) 3,none⟩,⟨some 50,.load 27 (.tmp 49),none⟩,⟨some 51,.call ⟨.builtin .len,#[.tmp 50],#[27]⟩,none⟩,⟨some 52,.binOp .lss 3 (.tmp 48) (.tmp 51) 3,none⟩]) (.cond (.tmp 52) (.skip) (.exit 0))) (.seq (.block 1 (.seq (.drawn 6 [⟨some 55,.fieldAddr 29 (.tmp 2) 3,none⟩,⟨some 56,.load 27 (.tmp 55),none⟩,⟨some 57,.move (.tmp 5),none⟩,⟨some 58,.indexAddr 27 (.tmp 56) (.tmp 57),none⟩,⟨some 59,.load 29 (.tmp 58),none⟩,⟨some 60,.fieldAddr 29 (.tmp 3) 3,none⟩,⟨some 61,.load 27 (.tmp 60),none⟩,⟨some 62,.move (.tmp 5),none⟩,⟨some 63,.indexAddr 27 (.tmp 61) (.tmp 62),none⟩,⟨some 64,.load 29 (.tmp 63),none⟩,⟨some 65,.call ⟨.value (.func 31),#[.tmp 59,.tmp 64],#[29,29]⟩,none⟩,⟨some 66,.unOp .not 4 (.tmp 65),none⟩]) (.cond (.tmp 66) (.seq (.reg [⟨some 4,.assign (.const (.bool false)),none⟩]) (.ret)) (.skip)))) (.reg [⟨some 53,.move (.tmp 5),none⟩,⟨some 54,.binOp .add 3 (.tmp 53) (.const (.int .i64 1)) 3,none⟩,⟨some 5,.assign (.tmp 54),none⟩]))
def x31 : XC := .seq (.reg [⟨some 2,.box 29 (.tmp 0),none⟩,⟨some 3,.box 29 (.tmp 1),none⟩,⟨some 4,.assign (.const (.bool false)),none⟩]) (.seq (.seq (.reg [⟨some 6,.fieldAddr 29 (.tmp 2) 0,none⟩,⟨some 7,.load 9 (.tmp 6),none⟩,⟨some 8,.fieldAddr 29 (.tmp 3) 0,none⟩,⟨some 9,.load 9 (.tmp 8),none⟩,⟨some 10,.binOp .neq 9 (.tmp 7) (.tmp 9) 9,none⟩,⟨some 11,.move (.tmp 10),none⟩,⟨some 12,.fieldAddr 29 (.tmp 2) 1,some (some 11,false)⟩,⟨some 13,.load 24 (.tmp 12),some (some 11,false)⟩,⟨some 14,.fieldAddr 29 (.tmp 3) 1,some (some 11,false)⟩,⟨some 15,.load 24 (.tmp 14),some (some 11,false)⟩,⟨some 16,.call ⟨.value (.func 71),#[.tmp 13,.tmp 15],#[24,24]⟩,some (some 11,false)⟩,⟨some 17,.unOp .not 4 (.tmp 16),some (some 11,false)⟩,⟨some 18,.pick (.tmp 11) (.const (.bool true)) (.tmp 17),none⟩,⟨some 19,.move (.tmp 18),none⟩,⟨some 20,.fieldAddr 29 (.tmp 2) 2,some (some 19,false)⟩,⟨some 21,.fieldAddr 26 (.tmp 20) 0,some (some 19,false)⟩,⟨some 22,.load 22 (.tmp 21),some (some 19,false)⟩,⟨some 23,.fieldAddr 29 (.tmp 3) 2,some (some 19,false)⟩,⟨some 24,.fieldAddr 26 (.tmp 23) 0,some (some 19,false)⟩,⟨some 25,.load 22 (.tmp 24),some (some 19,false)⟩,⟨some 26,.call ⟨.value (.func 51),#[.tmp 22,.tmp 25],#[22,22]⟩,some (some 19,false)⟩,⟨some 27,.unOp .not 4 (.tmp 26),some (some 19,false)⟩,⟨some 28,.pick (.tmp 19) (.const (.bool true)) (.tmp 27),none⟩,⟨some 29,.move (.tmp 28),none⟩,⟨some 30,.fieldAddr 29 (.tmp 2) 2,some (some 29,false)⟩,⟨some 31,.fieldAddr 26 (.tmp 30) 1,some (some 29,false)⟩,⟨some 32,.load 22 (.tmp 31),some (some 29,false)⟩,⟨some 33,.fieldAddr 29 (.tmp 3) 2,some (some 29,false)⟩,⟨some 34,.fieldAddr 26 (.tmp 33) 1,some (some 29,false)⟩,⟨some 35,.load 22 (.tmp 34),some (some 29,false)⟩,⟨some 36,.call ⟨.value (.func 51),#[.tmp 32,.tmp 35],#[22,22]⟩,some (some 29,false)⟩,⟨some 37,.unOp .not 4 (.tmp 36),some (some 29,false)⟩,⟨some 38,.pick (.tmp 29) (.const (.bool true)) (.tmp 37),none⟩,⟨some 39,.move (.tmp 38),none⟩,⟨some 40,.fieldAddr 29 (.tmp 2) 3,some (some 39,false)⟩,⟨some 41,.load 27 (.tmp 40),some (some 39,false)⟩,⟨some 42,.call ⟨.builtin .len,#[.tmp 41],#[27]⟩,some (some 39,false)⟩,⟨some 43,.fieldAddr 29 (.tmp 3) 3,some (some 39,false)⟩,⟨some 44,.load 27 (.tmp 43),some (some 39,false)⟩,⟨some 45,.call ⟨.builtin .len,#[.tmp 44],#[27]⟩,some (some 39,false)⟩,⟨some 46,.binOp .neq 3 (.tmp 42) (.tmp 45) 3,some (some 39,false)⟩,⟨some 47,.pick (.tmp 39) (.const (.bool true)) (.tmp 46),none⟩]) (.cond (.tmp 47) (.seq (.reg [⟨some 4,.assign (.const (.bool false)),none⟩]) (.ret)) (.skip))) (.seq (.seq (.reg [⟨some 5,.assign (.const (.int .i64 0)),none⟩]) (.bloop 0 x31_L0)) (.seq (.reg [⟨some 4,.assign (.const (.bool true)),none⟩]) (.ret))))
@[simp] theorem x31_s {C : WC} {e : AE} {s : Store} {K : KS} : type_of% (@X_at C e s K _ _ x31_L0.eq_1) ∧ type_of% (@X_at C e s K _ _ x31.eq_1) := ⟨X_at x31_L0.eq_1, X_at x31.eq_1⟩
def an31 : Ann := ⟨[(6, .mix 10)], [(0, [], [2, 3, 5], [4])], []⟩
def cx31 (P : Program) (m : Nat) : WC := ⟨P, m, an31⟩
@[simp] theorem cx31_a {P : Program} {m : Nat} : (cx31 P m).P = P ∧ (cx31 P m).m = m ∧ (cx31 P m).A.clsOf 6 = .mix 10 ∧ (cx31 P m).A.frzOf 6 = [] ∧ (cx31 P m).A.loopOf 0 = ([], [2, 3, 5], [4]) := ⟨rfl, rfl, rfl, rfl, rfl⟩
instance {P : Program} {m f : Nat} [h : EnT P f] : EnT (cx31 P m).P f := h
theorem fi31 : FI Try.prog 31 cx31 x31 [.tmp 4] Try.f31 := fiOf (fun _ _ => rfl) (by decide +kernel) Try.func31 (by kernel_rfl) (by kernel_rfl) mixed

theorem sameProof_self (p : Pf) : CallOK Try.prog 31 [.agg (prf p), .agg (prf p)] [] (.bool true) [] := by
  induction p using Pf.ind with
  | h p ih =>
    have h1 := Same_ref p.f p.f
    rw [sameB_iff.2 rfl] at h1
    have h2 := Alike_self p.l
    have h3 := Alike_self p.r
    refine fi31.op ?_
    ((refine Sg.h ?_); try repeat' ((first | (with_reducible first | refine Sg.mk ?_ | refine brA ?_ | refine brE fun _ => ?_ | (refine spl (And.intro ?_ ?_) <;> intro _)) | (refine clo h1 ?_) | (refine clo h2 ?_) | (refine clo h3 ?_)) <;> ((try simp (implicitDefEqProofs := false)); (try simp (implicitDefEqProofs := false) (disch := first | assumption | (try simp only [lens]); omega -splitDisjunctions)))))
    refine W_of fun Q hQ => ?_
    have main : ∀ n i, i + n = p.kids.length → Q [(2, .ptr 0 0 0), (3, .ptr 1 0 0), (5, .int .i64 (i : Int))] [.rows 7 [prf p], .rows 7 [prf p]] := by
      intro n
      induction n with
      | zero =>
        intro i hi
        apply hQ
        clear hQ
        ((refine Sg.h ?_); try repeat' ((first | (with_reducible first | refine Sg.mk ?_ | refine brA ?_ | refine brE fun _ => ?_ | (refine spl (And.intro ?_ ?_) <;> intro _))) <;> ((try simp (implicitDefEqProofs := false)); (try simp (implicitDefEqProofs := false) (disch := first | assumption | (try simp only [lens]); omega -splitDisjunctions)))))
      | succ n ihn =>
        intro i hi
        have hil : i < p.kids.length := by omega
        have ihn := ihn (i + 1) (by omega)
        have hc := ih p.kids[i] (List.getElem_mem hil)
        apply hQ
        clear hQ
        ((refine Sg.h ?_); try repeat' ((first | (with_reducible first | refine Sg.mk ?_ | refine brA ?_ | refine brE fun _ => ?_ | (refine spl (And.intro ?_ ?_) <;> intro _)) | (refine clo hc ?_)) <;> ((try simp (implicitDefEqProofs := false) [hil]); (try simp (implicitDefEqProofs := false) (disch := first | assumption | (try simp only [lens]); omega -splitDisjunctions) [hil]))))
        all_goals first | exact ihn | (refine at2 ihn ?_ ?_ <;> simp; done) | (exfalso; first | omega | (simp_all; done) | (simp_all; omega))
    all_goals first | exact main _ 0 (Nat.zero_add _) | (refine at2 main _ 0 (Nat.zero_add _) ?_ ?_ <;> simp; done) | (exfalso; first | omega | (simp_all; done) | (simp_all; omega))
def x49 : XC := .seq (.reg [⟨some 1,.box 26 (.tmp 0),none⟩,⟨some 2,.alloc 26,none⟩]) (.seq (.drawn 1 [⟨some 3,.fieldAddr 26 (.tmp 1) 0,none⟩,⟨some 4,.load 22 (.tmp 3),none⟩,⟨some 5,.call ⟨.value (.func 57),#[.tmp 4],#[22]⟩,none⟩,⟨some 6,.fieldAddr 26 (.tmp 1) 1,none⟩,⟨some 7,.load 22 (.tmp 6),none⟩,⟨some 8,.call ⟨.value (.func 57),#[.tmp 7],#[22]⟩,none⟩,⟨some 9,.build 26 #[(0,.tmp 5),(1,.tmp 8)],none⟩,⟨none,.store 26 (.tmp 2) (.tmp 9),none⟩]) (.ret))
@[simp] theorem x49_s {C : WC} {e : AE} {s : Store} {K : KS} : type_of% (@X_at C e s K _ _ x49.eq_1) := X_at x49.eq_1
def an49 : Ann := ⟨[(1, .mix 5)], [], []⟩
def cx49 (P : Program) (m : Nat) : WC := ⟨P, m, an49⟩
@[simp] theorem cx49_a {P : Program} {m : Nat} : (cx49 P m).P = P ∧ (cx49 P m).m = m ∧ (cx49 P m).A.clsOf 1 = .mix 5 ∧ (cx49 P m).A.frzOf 1 = [] := ⟨rfl, rfl, rfl, rfl⟩
instance {P : Program} {m f : Nat} [h : EnT P f] : EnT (cx49 P m).P f := h
theorem fi49 : FI Try.prog 49 cx49 x49 [.cell 2 26] Try.f49 := fiOf (fun _ _ => rfl) (by decide +kernel) Try.func49 (by kernel_rfl) (by kernel_rfl) mixed

theorem ownSequent_law (l r : List Fm) (hl : l.length ≤ 1000000) (hr : r.length ≤ 1000000) (vl : ∀ f ∈ l, vastB f 0 = false) (vr : ∀ f ∈ r, vastB f 0 = false) : CallOK Try.prog 49 [.agg [.list (l.map frm), .list (r.map frm)]] [] (.agg [.list (l.map frm), .list (r.map frm)]) [] := by
  have h1 := ownList_law l hl vl
  have h2 := ownList_law r hr vr
  refine fi49.op ?_
  ((refine Sg.h ?_); try repeat' ((first | (with_reducible first | refine Sg.mk ?_ | refine brA ?_ | refine brE fun _ => ?_ | (refine spl (And.intro ?_ ?_) <;> intro _)) | (refine clo h1 ?_) | (refine clo h2 ?_)) <;> ((try simp (implicitDefEqProofs := false)); (try simp (implicitDefEqProofs := false) (disch := first | assumption | (try simp only [lens]); omega -splitDisjunctions)))))
def x27_T1 : XC := .seq (.reg [⟨some 32,.load 29 (.tmp 3),none⟩,⟨none,.store 29 (.tmp 2) (.tmp 32),none⟩]) (.ret)
def x27_L0 : XC := .seq (.seq (.reg [⟨some 14,.move (.tmp 4),none⟩,⟨some 15,.fieldAddr 29 (.tmp 1) 3,none⟩,⟨some 16,.load 27 (.tmp 15),none⟩,⟨some 17,.call ⟨.builtin .len,#[.tmp 16],#[27]⟩,none⟩,⟨some 18,.binOp .lss 3 (.tmp 14) (.tmp 17) 3,none⟩]) (.cond (.tmp 18) (.skip) (.exit 0))) (.seq (.block 1 (.drawn 5 [⟨some 21,.fieldAddr 29 (.tmp 3) 3,none⟩,⟨some 22,.load 27 (.tmp 21),none⟩,⟨some 23,.fieldAddr 29 (.tmp 1) 3,none⟩,⟨some 24,.load 27 (.tmp 23),none⟩,⟨some 25,.move (.tmp 4),none⟩,⟨some 26,.indexAddr 27 (.tmp 24) (.tmp 25),none⟩,⟨some 27,.load 29 (.tmp 26),none⟩,⟨some 28,.call ⟨.value (.func 27),#[.tmp 27],#[29]⟩,none⟩,⟨some 29,.buildSlice 27 1 #[(0,.tmp 28)],none⟩,⟨some 30,.call ⟨.builtin .append,#[.tmp 22,.tmp 29],#[27,27]⟩,none⟩,⟨some 31,.fieldAddr 29 (.tmp 3) 3,none⟩,⟨none,.store 27 (.tmp 31) (.tmp 30),none⟩])) (.reg [⟨some 19,.move (.tmp 4),none⟩,⟨some 20,.binOp .add 3 (.tmp 19) (.const (.int .i64 1)) 3,none⟩,⟨some 4,.assign (.tmp 20),none⟩]))
def x27 : XC := .seq (.reg [⟨some 1,.box 29 (.tmp 0),none⟩,⟨some 2,.alloc 29,none⟩]) (.seq (.drawn 1 [⟨some 5,.fieldAddr 29 (.tmp 1) 0,none⟩,⟨some 6,.load 9 (.tmp 5),none⟩,⟨some 7,.fieldAddr 29 (.tmp 1) 1,none⟩,⟨some 8,.load 24 (.tmp 7),none⟩,⟨some 9,.call ⟨.value (.func 35),#[.tmp 8],#[24]⟩,none⟩,⟨some 10,.fieldAddr 29 (.tmp 1) 2,none⟩,⟨some 11,.load 26 (.tmp 10),none⟩,⟨some 12,.call ⟨.value (.func 49),#[.tmp 11],#[26]⟩,none⟩,⟨some 13,.build 29 #[(0,.tmp 6),(1,.tmp 9),(2,.tmp 12)],none⟩,⟨some 3,.alloc 29,none⟩,⟨none,.store 29 (.tmp 3) (.tmp 13),none⟩]) (.seq (.seq (.reg [⟨some 4,.assign (.const (.int .i64 0)),none⟩]) (.bloop 0 x27_L0)) (x27_T1)))
@[simp] theorem x27_s {C : WC} {e : AE} {s : Store} {K : KS} : type_of% (@X_at C e s K _ _ x27_T1.eq_1) ∧ type_of% (@X_at C e s K _ _ x27_L0.eq_1) ∧ type_of% (@X_at C e s K _ _ x27.eq_1) := ⟨X_at x27_T1.eq_1, X_at x27_L0.eq_1, X_at x27.eq_1⟩
def an27 : Ann := ⟨[(1, .mix 10), (5, .mix 9)], [(0, [(3, some 6, 7)], [1, 2, 3, 4], [2, 3])], []⟩
def cx27 (P : Program) (m : Nat) : WC := ⟨P, m, an27⟩
@[simp] theorem cx27_a {P : Program} {m : Nat} : (cx27 P m).P = P ∧ (cx27 P m).m = m ∧ (cx27 P m).A.clsOf 1 = .mix 10 ∧ (cx27 P m).A.clsOf 5 = .mix 9 ∧ (cx27 P m).A.frzOf 1 = [] ∧ (cx27 P m).A.frzOf 5 = [] ∧ (cx27 P m).A.loopOf 0 = ([(3, some 6, 7)], [1, 2, 3, 4], [2, 3]) := ⟨rfl, rfl, rfl, rfl, rfl, rfl, rfl⟩
instance {P : Program} {m f : Nat} [h : EnT P f] : EnT (cx27 P m).P f := h
theorem fi27 : FI Try.prog 27 cx27 x27 [.cell 2 29] Try.f27 := fiOf (fun _ _ => rfl) (by decide +kernel) Try.func27 (by kernel_rfl) (by kernel_rfl) mixed

theorem ownProof_law (p : Pf) : ∀ d, vastP p d = false → CallOK Try.prog 27 [.agg (prf p)] [] (.agg (prf p)) [] := by
  induction p using Pf.ind with
  | h p ih =>
    intro d hd
    obtain ⟨v1, v2, v3, v4, v5, v6, v7⟩ := vastP_all hd
    have h1 := own_law p.f 0 v4
    have h2 := ownSequent_law p.l p.r (by omega) (by omega) v5 v6
    have hpf := frm_eq p.f
    refine fi27.op ?_
    have hE : (p.kids.map prf).take p.kids.length = p.kids.map prf := List.take_of_length_le (by simp)
    rw [hpf] at h1
    ((refine Sg.h ?_); try repeat' ((first | (with_reducible first | refine Sg.mk ?_ | refine brA ?_ | refine brE fun _ => ?_ | (refine spl (And.intro ?_ ?_) <;> intro _)) | (refine clo h1 ?_) | (refine clo h2 ?_)) <;> ((try simp (implicitDefEqProofs := false) [hpf]); (try simp (implicitDefEqProofs := false) (disch := first | assumption | (try simp only [lens]); omega -splitDisjunctions) [hpf]))))
    refine W_of fun Q hQ => ?_
    have main : ∀ n i, i + n = p.kids.length → Q [(1, .ptr 0 0 0), (2, .ptr 1 0 0), (3, .ptr 2 0 0), (4, .int .i64 (i : Int))] [.rows 7 [prf p], .rows 7 [[.str ⟨#[]⟩, .int .i64 0, .str ⟨#[]⟩, .nilsl, .nilsl, .nilsl, .nilsl]], .rows 7 [[.str p.rule, .int .i64 p.f.kind, .str p.f.name, .list (p.f.kids.map frm), .list (p.l.map frm), .list (p.r.map frm), .sl 3 0 (p.kids.take i).length]], .rows 7 ((p.kids.take i).map prf)] := by
      intro n
      induction n with
      | zero =>
        intro i hi
        obtain rfl : i = p.kids.length := by omega
        rw [List.take_length]
        apply hQ
        clear hQ
        ((refine Sg.h ?_); try repeat' ((first | (with_reducible first | refine Sg.mk ?_ | refine brA ?_ | refine brE fun _ => ?_ | (refine spl (And.intro ?_ ?_) <;> intro _))) <;> ((try simp (implicitDefEqProofs := false)); (try simp (implicitDefEqProofs := false) (disch := first | assumption | (try simp only [lens]); omega -splitDisjunctions)))))
        all_goals rw [prf_eq]
      | succ n ihn =>
        intro i hi
        have hil : i < p.kids.length := by omega
        have ihn := ihn (i + 1) (by omega)
        have hc := ih p.kids[i] (List.getElem_mem hil) _ (v7 _ (List.getElem_mem hil))
        have hlen : (p.kids.take i).length = i := by rw [List.length_take]; omega
        rw [take_snoc hil] at ihn
        generalize p.kids.take i = T at *
        apply hQ
        clear hQ
        ((refine Sg.h ?_); try repeat' ((first | (with_reducible first | refine Sg.mk ?_ | refine brA ?_ | refine brE fun _ => ?_ | (refine spl (And.intro ?_ ?_) <;> intro _)) | (refine clo hc ?_)) <;> ((try simp (implicitDefEqProofs := false) [hil]); (try simp (implicitDefEqProofs := false) (disch := first | assumption | (try simp only [lens]); omega -splitDisjunctions) [hil]))))
        all_goals first | exact ihn | (refine at2 ihn ?_ ?_ <;> simp; done) | (exfalso; first | omega | (simp_all; done) | (simp_all; omega))
    all_goals first | exact main _ 0 (Nat.zero_add _) | (refine at2 main _ 0 (Nat.zero_add _) ?_ ?_ <;> simp; done) | (exfalso; first | omega | (simp_all; done) | (simp_all; omega))
end Go.Proofs.Ytnoklmapofogeaa
namespace Go.Proofs.Ytnoklmapofogeaa
open Go Go.Pv
set_option linter.unusedVariables false
set_option linter.unusedSimpArgs false
set_option maxRecDepth 100000
set_option maxHeartbeats 4000000

theorem check_zero {u : Bool} {p : Pf} (h : (checkF u p).1 = 0) : checkF u p = (0, 0) := by
  rw [check_scan] at h ⊢
  have key : ∀ (L : List (Pf × Int)) (n : Nat), (scanF u L n).2.1 = 0 → (scanF u L n).2 = (0, 0) := by
    intro L
    induction L with
    | nil => intro n _; rfl
    | cons x r ih =>
      intro n h
      rw [scanF] at h ⊢
      split at h
      · cases h
      · rename_i h1
        rw [if_neg h1]
        split at h
        · cases h
        · rename_i h2
          rw [if_neg h2]
          split at h
          · rename_i h3; exact absurd h h3
          · rename_i h3
            rw [if_neg h3]
            exact ih _ h
  exact key _ _ h
def x6 : XC := .seq (.reg [⟨some 2,.box 29 (.tmp 0),none⟩,⟨some 4,.assign (.const (.bool false)),none⟩]) (.seq (.seq (.reg [⟨some 11,.call ⟨.value (.func 14),#[],#[]⟩,none⟩,⟨some 12,.unOp .not 4 (.tmp 11),none⟩]) (.cond (.tmp 12) (.seq (.reg [⟨some 4,.assign (.const (.bool false)),none⟩]) (.ret)) (.skip))) (.seq (.seq (.reg [⟨some 13,.load 29 (.tmp 2),none⟩,⟨some 14,.call ⟨.value (.func 15),#[.tmp 13,.const (.int .i64 0)],#[29,3]⟩,none⟩]) (.cond (.tmp 14) (.seq (.reg [⟨some 4,.assign (.const (.bool true)),none⟩]) (.ret)) (.skip))) (.seq (.reg [⟨some 15,.load 29 (.tmp 2),none⟩,⟨some 16,.call ⟨.value (.func 27),#[.tmp 15],#[29]⟩,none⟩,⟨some 5,.alloc 29,none⟩,⟨none,.store 29 (.tmp 5) (.tmp 16),none⟩]) (.seq (.reg [⟨some 17,.load 29 (.tmp 5),none⟩,⟨some 18,.move (.tmp 1),none⟩,⟨some 19,.call ⟨.value (.func 16),#[.tmp 17,.tmp 18],#[29,4]⟩,none⟩,⟨some 6,.alloc 33,none⟩,⟨none,.store 33 (.tmp 6) (.tmp 19),none⟩]) (.seq (.reg [⟨some 21,.load 29 (.tmp 5),none⟩,⟨some 22,.move (.tmp 1),none⟩,⟨some 23,.call ⟨.value (.func 28),#[.tmp 21,.tmp 22],#[29,4]⟩,none⟩,⟨some 20,.move (.tmp 23),none⟩,⟨some 24,.extract (.tmp 20) 0,none⟩,⟨some 25,.extract (.tmp 20) 1,none⟩,⟨some 8,.alloc 33,none⟩,⟨some 7,.assign (.tmp 24),none⟩,⟨none,.store 33 (.tmp 8) (.tmp 25),none⟩]) (.seq (.reg [⟨some 26,.load 29 (.tmp 2),none⟩,⟨some 27,.move (.tmp 1),none⟩,⟨some 28,.call ⟨.value (.func 29),#[.tmp 26,.tmp 27],#[29,4]⟩,none⟩,⟨some 9,.alloc 33,none⟩,⟨none,.store 33 (.tmp 9) (.tmp 28),none⟩]) (.seq (.reg [⟨some 29,.fieldAddr 29 (.tmp 5) 2,none⟩,⟨some 30,.load 26 (.tmp 29),none⟩,⟨some 31,.call ⟨.value (.func 30),#[.tmp 30],#[26]⟩,none⟩,⟨some 10,.alloc 33,none⟩,⟨none,.store 33 (.tmp 10) (.tmp 31),none⟩]) (.seq (.seq (.drawn 10 [⟨some 32,.load 33 (.tmp 6),none⟩,⟨some 33,.load 33 (.tmp 9),none⟩,⟨some 34,.binOp .neq 33 (.tmp 32) (.tmp 33) 33,none⟩,⟨some 35,.move (.tmp 34),none⟩,⟨some 36,.load 33 (.tmp 8),some (some 35,false)⟩,⟨some 37,.load 33 (.tmp 9),some (some 35,false)⟩,⟨some 38,.binOp .neq 33 (.tmp 36) (.tmp 37) 33,some (some 35,false)⟩,⟨some 39,.pick (.tmp 35) (.const (.bool true)) (.tmp 38),none⟩,⟨some 40,.move (.tmp 39),none⟩,⟨some 41,.load 33 (.tmp 10),some (some 40,false)⟩,⟨some 42,.fieldAddr 29 (.tmp 2) 2,some (some 40,false)⟩,⟨some 43,.load 26 (.tmp 42),some (some 40,false)⟩,⟨some 44,.call ⟨.value (.func 26),#[.tmp 43],#[26]⟩,some (some 40,false)⟩,⟨some 45,.binOp .neq 33 (.tmp 41) (.tmp 44) 33,some (some 40,false)⟩,⟨some 46,.pick (.tmp 40) (.const (.bool true)) (.tmp 45),none⟩,⟨some 47,.move (.tmp 46),none⟩,⟨some 48,.load 29 (.tmp 5),some (some 47,false)⟩,⟨some 49,.load 29 (.tmp 2),some (some 47,false)⟩,⟨some 50,.call ⟨.value (.func 31),#[.tmp 48,.tmp 49],#[29,29]⟩,some (some 47,false)⟩,⟨some 51,.unOp .not 4 (.tmp 50),some (some 47,false)⟩,⟨some 52,.pick (.tmp 47) (.const (.bool true)) (.tmp 51),none⟩]) (.cond (.tmp 52) (.seq (.reg [⟨some 4,.assign (.const (.bool false)),none⟩]) (.ret)) (.skip))) (.seq (.seq (.reg [⟨some 53,.fieldAddr 33 (.tmp 9) 0,none⟩,⟨some 54,.load 3 (.tmp 53),none⟩,⟨some 55,.binOp .neq 3 (.tmp 54) (.const (.int .i64 0)) 3,none⟩]) (.cond (.tmp 55) (.seq (.reg [⟨some 56,.move (.tmp 7),none⟩,⟨some 57,.binOp .eql 3 (.tmp 56) (.const (.int .i64 0)) 3,none⟩,⟨some 4,.assign (.tmp 57),none⟩]) (.ret)) (.skip))) (.seq (.reg [⟨some 58,.move (.tmp 7),none⟩,⟨some 59,.load 29 (.tmp 2),none⟩,⟨some 60,.call ⟨.value (.func 32),#[.tmp 59],#[29]⟩,none⟩,⟨some 61,.binOp .eql 3 (.tmp 58) (.tmp 60) 3,none⟩,⟨some 4,.assign (.tmp 61),none⟩]) (.ret)))))))))))
@[simp] theorem x6_s {C : WC} {e : AE} {s : Store} {K : KS} : type_of% (@X_at C e s K _ _ x6.eq_1) := X_at x6.eq_1
def an6 : Ann := ⟨[(10, .mix 18)], [], []⟩
def cx6 (P : Program) (m : Nat) : WC := ⟨P, m, an6⟩
@[simp] theorem cx6_a {P : Program} {m : Nat} : (cx6 P m).P = P ∧ (cx6 P m).m = m ∧ (cx6 P m).A.clsOf 10 = .mix 18 ∧ (cx6 P m).A.frzOf 10 = [] := ⟨rfl, rfl, rfl, rfl⟩
instance {P : Program} {m f : Nat} [h : EnT P f] : EnT (cx6 P m).P f := h
theorem fi6 : FI Try.prog 6 cx6 x6 [.tmp 4] Try.f6 := fiOf (fun _ _ => rfl) (by decide +kernel) Try.func6 (by kernel_rfl) (by kernel_rfl) mixed

theorem calculusChecks_law (p : Pf) (u : Bool) : CallOK Try.prog 6 [.agg (prf p), .bool u] [] (.bool true) [] := by
  have h0 := calculusBegun_law
  have h1 := VastProof_ref p 0 (by decide) (by decide)
  refine fi6.op ?_
  cases hv : vastP p 0 with
  | true =>
    rw [hv] at h1
    ((refine Sg.h ?_); try repeat' ((first | (with_reducible first | refine Sg.mk ?_ | refine brA ?_ | refine brE fun _ => ?_ | (refine spl (And.intro ?_ ?_) <;> intro _)) | (refine clo h0 ?_) | (refine clo h1 ?_)) <;> ((try simp (implicitDefEqProofs := false)); (try simp (implicitDefEqProofs := false) (disch := first | assumption | (try simp only [lens]); omega -splitDisjunctions)))))
  | false =>
    rw [hv] at h1
    have hsz := vast_szs p 0 hv
    have hl := hsz.sz.l
    have hr := hsz.sz.r
    have h2 := ownProof_law p 0 hv
    have h3 := Check_calculus u p hsz
    have h4 := Cuts_calculus u p hsz fun h => by
      have := (check_steps h).2.1
      have := cuts_le p
      omega
    have h5 := ProofFault_ref u p hsz
    have h6 := CheckSequent_calculus p.l p.r (by omega) (by omega)
    have h7 := SequentFault_ref p.l p.r (by omega) (by omega)
    have h8 := sameProof_self p
    by_cases hc : (checkF u p).1 = 0
    · have h9 := CutsIn_ref u p hsz hc
      rw [check_zero hc] at h3 h4 h5
      simp only [ne_eq, not_true_eq_false, if_false] at h4
      generalize sequentF p.l p.r = S at *
      generalize (cutsP p : Int) = c at *
      ((refine Sg.h ?_); try repeat' ((first | (with_reducible first | refine Sg.mk ?_ | refine brA ?_ | refine brE fun _ => ?_ | (refine spl (And.intro ?_ ?_) <;> intro _)) | (refine clo h0 ?_) | (refine clo h1 ?_) | (refine clo h2 ?_) | (refine clo h3 ?_) | (refine clo h4 ?_) | (refine clo h5 ?_) | (refine clo h6 ?_) | (refine clo h7 ?_) | (refine clo h8 ?_) | (refine clo h9 ?_)) <;> ((try simp (implicitDefEqProofs := false)); (try simp (implicitDefEqProofs := false) (disch := first | assumption | (try simp only [lens]); omega -splitDisjunctions)))))
    · rw [if_pos hc, if_pos hc, if_pos hc] at h4
      generalize sequentF p.l p.r = S at *
      generalize checkF u p = V at *
      ((refine Sg.h ?_); try repeat' ((first | (with_reducible first | refine Sg.mk ?_ | refine brA ?_ | refine brE fun _ => ?_ | (refine spl (And.intro ?_ ?_) <;> intro _)) | (refine clo h0 ?_) | (refine clo h1 ?_) | (refine clo h2 ?_) | (refine clo h3 ?_) | (refine clo h4 ?_) | (refine clo h5 ?_) | (refine clo h6 ?_) | (refine clo h7 ?_) | (refine clo h8 ?_)) <;> ((try simp (implicitDefEqProofs := false) [hc]); (try simp (implicitDefEqProofs := false) (disch := first | assumption | (try simp only [lens]); omega -splitDisjunctions) [hc]))))
end Go.Proofs.Ytnoklmapofogeaa
namespace Go.Proofs.Ytnoklmapofogeaa
open Go Go.Pv Go.ChangeShapes Go.WideShapes Go.ChangeAt Go.RowKit
set_option linter.unusedVariables false

theorem z_own : ownKnob Try.prog.godebug = none := by kernel_rfl

theorem z_call (rows : List (List PV)) (h : AllTy Try.prog [29, 4] rows) :
    CallOK Try.prog 6 (argsOf Try.prog [29, 4] rows) [] (.bool true) [] := by
  obtain ⟨r0, rs, rfl, h0, h⟩ := allTy_cons h
  obtain ⟨r1, rs, rfl, h1, h⟩ := allTy_cons h
  obtain rfl := allTy_nil h
  obtain ⟨p0, rfl⟩ := pf_of h0
  obtain ⟨b1, rfl⟩ := bool_of h1
  simp only [argsOf]
  rw [argOf_agg ty29 rfl, argOf_one ty4 rfl]
  exact calculusChecks_law p0 b1

set_option maxRecDepth 100000 in
theorem z_lifted (os : Os) (started : os.Started) (H : Type) (enc : TypeId × Value → H) :
    ReturnsInHanded {} Try.checked os 6 .any (Rows.calculusChecksSpec.pre6 enc Try.prog Try.f6 Rows.calculusChecksRow.domain false) (Rows.calculusChecksSpec.post enc Try.prog Try.f6 false true false false) := by
  refine returnsInHanded_of_change_sized (C := Try.checked) (s := Rows.calculusChecksSpec) z_own started (by kernel_rfl) Try.func6
    (ChangeSpec.witness6 (enc := enc) (C := Try.checked) (s := Rows.calculusChecksSpec) false ⟨#[], #[.agg #[.string ⟨#[]⟩, .int .i64 0, .string ⟨#[]⟩, .slice none 0 0, .slice none 0 0, .slice none 0 0, .slice none 0 0], .bool false], []⟩ 8 (by kernel_rfl) (by kernel_rfl) (by kernel_rfl) (by kernel_rfl)) ?_
  intro W base args ds gs before hval hW _ hz _
  exact law_contract (s := Rows.calculusChecksSpec) (tb := 4) [29, 9, 24, 3, 22, 26, 27, 4] (by kernel_rfl) (by kernel_rfl) (by kernel_rfl) (by kernel_rfl) rfl (by kernel_rfl) (und_bool ty4 rfl)
    (fun ds h => by match ds, h with | [d1, d2], _ => rfl)
    (fun rows h => by rw [Try.params6] at h ⊢; exact z_call rows h) W base args ds gs before hval hW hz

theorem calculusChecks_holds : Rows.CalculusChecksSaid :=
  OpenClaim.holds_of_wide 6 Try.f6 rfl rfl rfl rfl rfl rfl rfl ⟨rfl, rfl, rfl, rfl, rfl⟩ rfl rfl rfl rfl rfl (by kernel_rfl) Try.func6 (by kernel_rfl)
    (of_decide_eq_true (by kernel_rfl)) (by unfold Func.isWrapper; first | (rw [if_pos (by decide +kernel)]; kernel_rfl) | (rw [if_neg (by decide +kernel)]; exact ⟨rfl, rfl⟩))
    (fun os started H enc _ => z_lifted os started H enc)

end Go.Proofs.Ytnoklmapofogeaa
