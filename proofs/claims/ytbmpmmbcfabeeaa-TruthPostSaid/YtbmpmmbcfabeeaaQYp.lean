import Derived.Test.YtbmpmmbcfabeeaaPvData
import Derived.DataReads
import Derived.ChangeShapes
import Derived.WalkKit
import Derived.ProofKit
import Derived.OpenShut
import Derived.Below
import Derived.Carry
import Derived.SizedLaws
import Derived.Test.YtbmpmmbcfabeeaaTy
import Derived.Test.YtbmpmmbcfabeeaaTrH
import Derived.Test.YtbmpmmbcfabeeaaTrJ
import Derived.Test.YtbmpmmbcfabeeaaTrY
import Derived.Test.YtbmpmmbcfabeeaaRows
namespace Go.Pv
open Go
set_option linter.unusedVariables false
set_option linter.unusedSimpArgs false

inductive HasTy (P : Program) : TypeId → List PV → Prop where
  | bool {t b} (h : P.underlying t = some .bool) : HasTy P t [.bool b]
  | int {t k n} (h : P.underlying t = some (.int k)) (wf : (Lit.int k n).wf = true) : HasTy P t [.int k n]
  | str {t s} (h : P.underlying t = some .string) (hs : s.size ≤ maxLen) (hb : s.size ≤ reachBytes) : HasTy P t [.str s]
  | slice {t e rows} (h : P.underlying t = some (.slice e)) (hr : ∀ row ∈ rows, HasTy P e row) (hb : rows.length * P.bytesOf e ≤ reachBytes) : HasTy P t [.list rows]
  | struct {t} {fs : Array Field} {parts : List (List PV)} (h : P.underlying t = some (.struct fs)) (hl : parts.length = fs.size)
      (hp : ∀ (i : Nat) (f : Field) (row : List PV), fs[i]? = some f → parts[i]? = some row → HasTy P f.type row) : HasTy P t parts.flatten
  | array {t n e} {parts : List (List PV)} (h : P.underlying t = some (.array n e)) (hl : parts.length = n) (hp : ∀ row ∈ parts, HasTy P e row) : HasTy P t parts.flatten

def RowRel (pub : PHeap) (row : List PV) (cs : List Value) : Prop := row.length = cs.length ∧ ∀ (j : Nat) (v : PV) (c : Value), row[j]? = some v → cs[j]? = some c → Rel pub noSig v c
theorem RowRel.nil {pub : PHeap} : RowRel pub [] [] := ⟨rfl, fun j v c h => by simp at h⟩
theorem RowRel.one {pub : PHeap} {v : PV} {c : Value} (h : Rel pub noSig v c) : RowRel pub [v] [c] := ⟨rfl, fun j x y hx hy => by
  cases j with
  | zero => simp at hx hy; subst hx hy; exact h
  | succ j => simp at hx⟩
theorem RowRel.append {pub : PHeap} {r r' : List PV} {cs cs' : List Value} (h : RowRel pub r cs) (g : RowRel pub r' cs') : RowRel pub (r ++ r') (cs ++ cs') := by
  refine ⟨by simp [h.1, g.1], fun j v c hv hc => ?_⟩
  rw [List.getElem?_append] at hv hc
  split at hv
  · rename_i hlt; rw [if_pos (by rw [← h.1]; exact hlt)] at hc; exact h.2 j v c hv hc
  · rename_i hge; rw [if_neg (by rw [← h.1]; exact hge), ← h.1] at hc; exact g.2 _ v c hv hc

def contig (P : Program) (total : Nat) : List Field → Nat → Bool
  | [], o => o == total
  | f :: r, o => f.offset == o && contig P total r (o + P.cellsOf f.type)
def tyOK (P : Program) (S : List TypeId) (t : TypeId) : Bool := match P.underlying t with
  | some .bool | some (.int _) | some .string => true
  | some (.slice e) => S.contains e && decide (0 < P.cellsOf e)
  | some (.struct fs) => contig P (P.cellsOf t) fs.toList 0 && fs.toList.all fun f => S.contains f.type
  | some (.array n e) => S.contains e && n * P.cellsOf e == P.cellsOf t
  | _ => false

theorem rows_of {α : Type} (p : Nat → α → Prop) : ∀ n, (∀ i, i < n → ∃ x, p i x) → ∃ l : List α, l.length = n ∧ ∀ i x, l[i]? = some x → p i x := by
  intro n
  induction n with
  | zero => intro _; exact ⟨[], rfl, fun i x h => by simp at h⟩
  | succ n ih =>
    intro h
    obtain ⟨l, hl, hp⟩ := ih fun i hi => h i (by omega)
    obtain ⟨x, hx⟩ := h n (by omega)
    refine ⟨l ++ [x], by simp [hl], fun i y hy => ?_⟩
    rw [List.getElem?_append] at hy
    split at hy
    · exact hp i y hy
    · rename_i hge
      have hi := lt_of_getElem? hy
      simp only [List.length_cons, List.length_nil] at hi
      have hin : i = n := by omega
      subst hin
      rw [show i - l.length = 0 by omega] at hy
      simp at hy; subst hy; exact hx

section
variable {H : Type} {enc : TypeId × Value → H} {P : Program} {S : List TypeId} {w : World} {spare : Nat → Bool} {held : Bool}

theorem fields_rel {fuel total : Nat} {cs : List Value} {pub : PHeap} (hcs : cs.length = total)
    (ih : ∀ (t : TypeId) (cs : List Value) (x : DataW H × List MemPlace), S.contains t = true → DataW.trod enc P w 0 spare held fuel t cs = some x → (∀ n ∈ DataW.weights P t x.1, n ≤ reachBytes) → ∃ row, HasTy P t row ∧ RowRel pub row cs) :
    ∀ (fs : List Field) (o : Nat) (xs : List (DataW H × List MemPlace)), contig P total fs o = true → (fs.all fun f => S.contains f.type) = true →
      (fs.mapM fun f => DataW.trod enc P w 0 spare held fuel f.type ((cs.drop f.offset).take (P.cellsOf f.type))) = some xs → (∀ n ∈ DataW.weightsEach P (fs.map (·.type)) (xs.map (·.1)), n ≤ reachBytes) →
      o ≤ total ∧ ∃ parts : List (List PV), parts.length = fs.length ∧ (∀ (i : Nat) (f : Field) (row : List PV), fs[i]? = some f → parts[i]? = some row → HasTy P f.type row) ∧ RowRel pub parts.flatten (cs.drop o) := by
  intro fs
  induction fs with
  | nil =>
    intro o xs hc _ _ _
    simp only [contig, beq_iff_eq] at hc
    refine ⟨by omega, [], rfl, fun i f row h => by simp at h, ?_⟩
    rw [List.drop_eq_nil_of_le (by omega)]; exact .nil
  | cons f r ih2 =>
    intro o xs hc ha hm hw
    simp only [contig, Bool.and_eq_true, beq_iff_eq] at hc
    simp only [List.all_cons, Bool.and_eq_true] at ha
    obtain ⟨ho, hc⟩ := hc
    rw [List.mapM_cons] at hm
    cases hx : DataW.trod enc P w 0 spare held fuel f.type ((cs.drop f.offset).take (P.cellsOf f.type)) with
    | none => rw [hx] at hm; simp at hm
    | some x =>
      cases hxs : (r.mapM fun f => DataW.trod enc P w 0 spare held fuel f.type ((cs.drop f.offset).take (P.cellsOf f.type))) with
      | none => rw [hx, hxs] at hm; simp at hm
      | some ys =>
        rw [hx, hxs] at hm
        obtain rfl : x :: ys = xs := by simpa using hm
        simp only [List.map_cons, DataW.weightsEach, List.mem_append] at hw
        obtain ⟨h1, parts, h2, h3, h4⟩ := ih2 _ ys hc ha.2 hxs fun n hn => hw n (.inr hn)
        obtain ⟨row, g1, g2⟩ := ih _ _ _ ha.1 hx fun n hn => hw n (.inl hn)
        refine ⟨by omega, row :: parts, by simp [h2], fun i f' row' hf hr => ?_, ?_⟩
        · cases i with
          | zero => simp at hf hr; subst hf hr; exact g1
          | succ i => exact h3 i f' row' (by simpa using hf) (by simpa using hr)
        · rw [List.flatten_cons]
          have hsplit : cs.drop o = (cs.drop o).take (P.cellsOf f.type) ++ cs.drop (o + P.cellsOf f.type) := by
            rw [← List.drop_drop, List.take_append_drop]
          rw [hsplit, ← ho]
          rw [← ho] at h4
          exact g2.append h4

theorem elems_rel {fuel : Nat} {cs : List Value} {pub : PHeap} {e : TypeId} (hin : S.contains e = true)
    (ih : ∀ (t : TypeId) (cs : List Value) (x : DataW H × List MemPlace), S.contains t = true → DataW.trod enc P w 0 spare held fuel t cs = some x → (∀ n ∈ DataW.weights P t x.1, n ≤ reachBytes) → ∃ row, HasTy P t row ∧ RowRel pub row cs) :
    ∀ (k i : Nat) (xs : List (DataW H × List MemPlace)), cs.length = (i + k) * P.cellsOf e →
      ((List.range' i k).mapM fun i => DataW.trod enc P w 0 spare held fuel e ((cs.drop (i * P.cellsOf e)).take (P.cellsOf e))) = some xs → (∀ n ∈ DataW.weightsAll P e (xs.map (·.1)), n ≤ reachBytes) →
      ∃ parts : List (List PV), parts.length = k ∧ (∀ row ∈ parts, HasTy P e row) ∧ RowRel pub parts.flatten (cs.drop (i * P.cellsOf e)) := by
  intro k
  induction k with
  | zero =>
    intro i xs hc _ _
    refine ⟨[], rfl, by simp, ?_⟩
    rw [List.drop_eq_nil_of_le (by rw [hc]; exact Nat.le_refl _)]; exact .nil
  | succ k ih2 =>
    intro i xs hc hm hw
    rw [List.range'_succ, List.mapM_cons] at hm
    cases hx : DataW.trod enc P w 0 spare held fuel e ((cs.drop (i * P.cellsOf e)).take (P.cellsOf e)) with
    | none => rw [hx] at hm; simp at hm
    | some x =>
      cases hxs : ((List.range' (i + 1) k).mapM fun i => DataW.trod enc P w 0 spare held fuel e ((cs.drop (i * P.cellsOf e)).take (P.cellsOf e))) with
      | none => rw [hx, hxs] at hm; simp at hm
      | some ys =>
        rw [hx, hxs] at hm
        obtain rfl : x :: ys = xs := by simpa using hm
        simp only [List.map_cons, DataW.weightsAll, List.mem_append] at hw
        obtain ⟨parts, h2, h3, h4⟩ := ih2 (i + 1) ys (by rw [hc]; congr 1; omega) hxs fun n hn => hw n (.inr hn)
        obtain ⟨row, g1, g2⟩ := ih _ _ _ hin hx fun n hn => hw n (.inl hn)
        refine ⟨row :: parts, by simp [h2], fun row' hr => ?_, ?_⟩
        · rcases List.mem_cons.1 hr with rfl | hr
          · exact g1
          · exact h3 _ hr
        · rw [List.flatten_cons]
          have hsplit : cs.drop (i * P.cellsOf e) = (cs.drop (i * P.cellsOf e)).take (P.cellsOf e) ++ cs.drop ((i + 1) * P.cellsOf e) := by
            rw [Nat.add_mul, Nat.one_mul, ← List.drop_drop, List.take_append_drop]
          rw [hsplit]
          exact g2.append h4

def heapOf (w : World) : PHeap := fun b => w.heap[b]?

theorem cell_block {w : World} {a : Addr} {c : Value} (h : w.cell? a = some c) : a.spot = none ∧ ∃ cs ty fr, w.heap[a.block]? = some (.cells cs ty fr) ∧ cs[a.off]? = some c := by
  unfold World.cell? at h
  split at h
  · rename_i cs ty fr hh
    split at h
    · cases h
    · rename_i hs; exact ⟨by simpa using hs, cs, ty, fr, hh, h⟩
  · cases h

theorem weightsAll_mem {H : Type} {P : Program} {e : TypeId} : ∀ {l : List (DataW H)} {d : DataW H} {n : Nat}, d ∈ l → n ∈ DataW.weights P e d → n ∈ DataW.weightsAll P e l
  | a :: r, d, n, h, hn => by
    simp only [DataW.weightsAll, List.mem_append]
    rcases List.mem_cons.1 h with rfl | h
    · exact .inl hn
    · exact .inr (weightsAll_mem h hn)
theorem trod_rel (hS : ∀ t, S.contains t = true → tyOK P S t = true) : ∀ (fuel : Nat) (t : TypeId) (cs : List Value) (x : DataW H × List MemPlace), S.contains t = true →
    DataW.trod enc P w 0 spare held fuel t cs = some x → (∀ n ∈ DataW.weights P t x.1, n ≤ reachBytes) → ∃ row, HasTy P t row ∧ RowRel (heapOf w) row cs := by
  intro fuel
  induction fuel with
  | zero => intro t cs x _ h; simp [DataW.trod] at h
  | succ fuel ih =>
    intro t cs x hin h hw
    have hok := hS t hin
    unfold tyOK at hok
    unfold DataW.trod at h
    split at hok
    · rename_i hu
      rw [hu] at h
      split at h <;> first | (cases h; done) | skip
      all_goals first | (rename_i heq; cases heq; done) | skip
      exact ⟨_, .bool hu, .one .bool⟩
    · rename_i k hu
      rw [hu] at h
      split at h <;> first | (cases h; done) | skip
      all_goals first | (rename_i heq; cases heq; done) | skip
      rename_i heq; cases heq
      split at h
      · rename_i hk; obtain ⟨rfl, hwf⟩ := hk; exact ⟨_, .int hu hwf, .one .int⟩
      · cases h
    · rename_i hu
      rw [hu] at h
      split at h <;> first | (cases h; done) | skip
      all_goals first | (rename_i heq; cases heq; done) | skip
      split at h
      · rename_i s hs
        cases h
        exact ⟨_, .str hu hs (by simpa [DataW.weights] using hw), .one (.str hs)⟩
      · cases h
    · rename_i e hu
      rw [hu] at h
      simp only [Bool.and_eq_true, decide_eq_true_eq] at hok
      split at h <;> first | (cases h; done) | skip
      all_goals first | (rename_i heq; cases heq; done) | skip
      · exact ⟨[.list []], .slice hu (fun row hr => by cases hr) (by simp), .one (.list0 (Nat.zero_le _))⟩
      · rename_i e' a len cap heq
        cases heq
        simp only at h
        split at h
        · rename_i hc
          obtain ⟨_, hlc, hcm⟩ := hc
          obtain ⟨elems, hm, h⟩ := Option.bind_eq_some_iff.1 h
          obtain ⟨rest, hrest, rfl⟩ := Option.map_eq_some_iff.1 h
          simp only [DataW.weights, hu, List.mem_cons, List.mem_append] at hw
          by_cases h0 : len = 0
          · subst h0
            exact ⟨[.list []], .slice hu (fun row hr => by cases hr) (by simp), .one (.list0 hcm)⟩
          · have hel : ∀ i, i < len → ∃ row : List PV, HasTy P e row ∧ ∃ ec : List Value, ec.length = P.cellsOf e ∧ (∀ j, j < P.cellsOf e → w.cell? ((a.add (i * P.cellsOf e)).add j) = ec[j]?) ∧ RowRel (heapOf w) row ec := by
              intro i hi
              have hx := mapM_some_get hm i i (by simp [hi])
              have hl := mapM_some_length hm
              simp only [List.length_range] at hl
              rw [List.getElem?_eq_getElem (by omega)] at hx
              obtain ⟨ec, h1, h2⟩ := Option.bind_eq_some_iff.1 hx
              obtain ⟨_, h3, h4⟩ := World.cells?_some h1
              obtain ⟨row, g1, g2⟩ := ih e ec _ hok.1 h2 fun n hn => hw n (.inr (.inl (weightsAll_mem (List.mem_map.2 ⟨_, List.getElem_mem _, rfl⟩) hn)))
              exact ⟨row, g1, ec, h3, h4, g2⟩
            obtain ⟨rows, hrl, hrp⟩ := rows_of _ len hel
            -- the block
            have h00 : w.cell? ((a.add (0 * P.cellsOf e)).add 0) = w.cell? a := by simp [Addr.add]
            obtain ⟨_, _, ec0, hec0, hcell0, _⟩ := hel 0 (by omega)
            have hc0 : w.cell? a = some (ec0[0]'(by omega)) := by
              rw [← h00, hcell0 0 hok.2]; exact List.getElem?_eq_getElem _
            obtain ⟨hsp, arr, ty, fr, hblk, _⟩ := cell_block hc0
            obtain ⟨b, o, sp⟩ := a
            simp only at hsp hblk
            subst hsp
            have hcellat : ∀ i, i < len → ∀ j, j < P.cellsOf e → w.cell? (((⟨b, o, none⟩ : Addr).add (i * P.cellsOf e)).add j) = arr[o + i * P.cellsOf e + j]? := by
              intro i _ j _
              rw [Addr.add_at, Addr.add_at, cell_at hblk]
            have hsz : o + rows.length * P.cellsOf e ≤ arr.size := by
              obtain ⟨_, _, ec, hec, hcell, _⟩ := hel (len - 1) (by omega)
              have h1 := hcell (P.cellsOf e - 1) (by omega)
              rw [hcellat (len - 1) (by omega) _ (by omega), List.getElem?_eq_getElem (by omega)] at h1
              have h2 : o + (len - 1) * P.cellsOf e + (P.cellsOf e - 1) < arr.size := by
                rcases Nat.lt_or_ge (o + (len - 1) * P.cellsOf e + (P.cellsOf e - 1)) arr.size with h | h
                · exact h
                · rw [Array.getElem?_eq_none h] at h1; cases h1
              rw [hrl]
              have h3 : len * P.cellsOf e = (len - 1) * P.cellsOf e + P.cellsOf e := by
                rw [← Nat.succ_mul]; congr 1; omega
              omega
            refine ⟨[.list rows], .slice hu (fun row hr => ?_) ?_, .one ?_⟩
            rotate_left
            · have h1 := hw _ (.inl rfl)
              have hl := mapM_some_length hm
              simp only [List.length_map, List.length_range] at h1 hl
              rw [hrl, ← hl]
              exact Nat.le_trans (Nat.mul_le_mul_right _ (Nat.le_add_right _ _)) h1
            rotate_left
            · obtain ⟨i, hi⟩ := List.mem_iff_getElem?.1 hr
              exact (hrp i row hi).1
            · have key : Rel (heapOf w) noSig (.list rows) (.slice (some ⟨b, o, none⟩) rows.length cap) := by
                refine .list (esz := P.cellsOf e) hblk (by omega) hcm ?_ hsz ?_
                · intro r row hr
                  obtain ⟨_, ec, h1, _, h3⟩ := hrp r row hr
                  rw [h3.1, h1]
                · intro r row j v c hr hj hcc
                  have hrlt := lt_of_getElem? hr
                  obtain ⟨_, ec, h1, h2, h3⟩ := hrp r row hr
                  have hjl := lt_of_getElem? hj
                  have h4 := h3.1
                  have h5 := h2 j (by omega)
                  rw [hcellat r (by omega) j (by omega), hcc] at h5
                  exact h3.2 j v c hj h5.symm
              rw [hrl] at key
              exact key
        · cases h
    · rename_i fs hu
      rw [hu] at h
      simp only [Bool.and_eq_true] at hok
      have h' : (if cs.length = P.cellsOf t then (fs.toList.mapM fun f => DataW.trod enc P w 0 spare held fuel f.type ((cs.drop f.offset).take (P.cellsOf f.type))).map fun xs => ((DataW.agg (xs.map (·.1)) : DataW H), xs.flatMap (·.2)) else none) = some x := by
        split at h
        all_goals first | (rename_i heq; cases heq; exact h) | (rename_i heq; cases heq; done) | (exfalso; simp only [Option.some.injEq, reduceCtorEq] at *; done) | (simp_all; done)
      split at h'
      · rename_i hlen
        obtain ⟨xs, hm, rfl⟩ := Option.map_eq_some_iff.1 h'
        simp only [DataW.weights, hu] at hw
        obtain ⟨_, parts, h1, h2, h3⟩ := fields_rel hlen ih fs.toList 0 xs hok.1 hok.2 hm hw
        refine ⟨parts.flatten, .struct hu (by simpa using h1) (fun i f row hf hr => h2 i f row (by simpa using hf) hr), by simpa using h3⟩
      · cases h'
    · rename_i n e hu
      rw [hu] at h
      simp only [Bool.and_eq_true, beq_iff_eq] at hok
      have h' : (if cs.length = P.cellsOf t then ((List.range n).mapM fun i => DataW.trod enc P w 0 spare held fuel e ((cs.drop (i * P.cellsOf e)).take (P.cellsOf e))).map fun xs => ((DataW.agg (xs.map (·.1)) : DataW H), xs.flatMap (·.2)) else none) = some x := by
        split at h
        all_goals first | (rename_i heq; cases heq; exact h) | (rename_i heq; cases heq; done) | (exfalso; simp only [Option.some.injEq, reduceCtorEq] at *; done) | (simp_all; done)
      split at h'
      · rename_i hlen
        obtain ⟨xs, hm, rfl⟩ := Option.map_eq_some_iff.1 h'
        rw [List.range_eq_range'] at hm
        simp only [DataW.weights, hu] at hw
        obtain ⟨parts, h1, h2, h3⟩ := elems_rel hok.1 ih n 0 xs (by rw [hlen, ← hok.2]; congr 1; omega) hm hw
        refine ⟨parts.flatten, .array hu h1 h2, by simpa using h3⟩
      · cases h'
    · cases hok
end

section
variable {P : Program} {t : TypeId} {row : List PV}
theorem HasTy.int' {k : IntKind} (hu : P.underlying t = some (.int k)) (h : HasTy P t row) : ∃ n, row = [.int k n] ∧ (Lit.int k n).wf = true := by
  cases h with
  | bool h1 => rw [h1] at hu; cases hu
  | int h1 wf => rw [h1] at hu; cases hu; exact ⟨_, rfl, wf⟩
  | str h1 hs hb => rw [h1] at hu; cases hu
  | slice h1 hr hb => rw [h1] at hu; cases hu
  | struct h1 hl hp => rw [h1] at hu; cases hu
  | array h1 hl hp => rw [h1] at hu; cases hu
theorem HasTy.str' (hu : P.underlying t = some .string) (h : HasTy P t row) : ∃ s, row = [.str s] ∧ s.size ≤ maxLen := by
  cases h with
  | bool h1 => rw [h1] at hu; cases hu
  | int h1 wf => rw [h1] at hu; cases hu
  | str h1 hs hb => rw [h1] at hu; cases hu; exact ⟨_, rfl, hs⟩
  | slice h1 hr hb => rw [h1] at hu; cases hu
  | struct h1 hl hp => rw [h1] at hu; cases hu
  | array h1 hl hp => rw [h1] at hu; cases hu
theorem HasTy.bool' (hu : P.underlying t = some .bool) (h : HasTy P t row) : ∃ b, row = [.bool b] := by
  cases h with
  | bool h1 => rw [h1] at hu; cases hu; exact ⟨_, rfl⟩
  | int h1 wf => rw [h1] at hu; cases hu
  | str h1 hs hb => rw [h1] at hu; cases hu
  | slice h1 hr hb => rw [h1] at hu; cases hu
  | struct h1 hl hp => rw [h1] at hu; cases hu
  | array h1 hl hp => rw [h1] at hu; cases hu
theorem HasTy.slice' {e : TypeId} (hu : P.underlying t = some (.slice e)) (h : HasTy P t row) : ∃ rows, row = [.list rows] ∧ ∀ r ∈ rows, HasTy P e r := by
  cases h with
  | bool h1 => rw [h1] at hu; cases hu
  | int h1 wf => rw [h1] at hu; cases hu
  | str h1 hs hb => rw [h1] at hu; cases hu
  | slice h1 hr hb => rw [h1] at hu; cases hu; exact ⟨_, rfl, hr⟩
  | struct h1 hl hp => rw [h1] at hu; cases hu
  | array h1 hl hp => rw [h1] at hu; cases hu
theorem HasTy.sliceB {e : TypeId} (hu : P.underlying t = some (.slice e)) (h : HasTy P t row) : ∃ rows, row = [.list rows] ∧ (∀ r ∈ rows, HasTy P e r) ∧ rows.length * P.bytesOf e ≤ reachBytes := by
  cases h with
  | slice h1 hr hb => rw [h1] at hu; cases hu; exact ⟨_, rfl, hr, hb⟩
  | bool h1 => rw [h1] at hu; cases hu
  | int h1 wf => rw [h1] at hu; cases hu
  | str h1 hs hb => rw [h1] at hu; cases hu
  | struct h1 hl hp => rw [h1] at hu; cases hu
  | array h1 hl hp => rw [h1] at hu; cases hu
theorem HasTy.array' {n : Nat} {e : TypeId} (hu : P.underlying t = some (.array n e)) (h : HasTy P t row) : ∃ parts : List (List PV), row = parts.flatten ∧ parts.length = n ∧ ∀ r ∈ parts, HasTy P e r := by
  cases h with
  | bool h1 => rw [h1] at hu; cases hu
  | int h1 wf => rw [h1] at hu; cases hu
  | str h1 hs hb => rw [h1] at hu; cases hu
  | slice h1 hr hb => rw [h1] at hu; cases hu
  | struct h1 hl hp => rw [h1] at hu; cases hu
  | array h1 hl hp => rw [h1] at hu; cases hu; exact ⟨_, rfl, hl, hp⟩
theorem HasTy.struct' {ti : TI} {l : List (Nat × Nat × Nat × Bool)} (ht : tinfo P t = some ti) (hk : ti.kind = .struct l) (h : HasTy P t row) : ∃ parts : List (List PV), row = parts.flatten ∧ parts.length = l.length ∧
    ∀ (i : Nat) (x : Nat × Nat × Nat × Bool) (r : List PV), l[i]? = some x → parts[i]? = some r → HasTy P x.2.1 r := by
  obtain ⟨i, d, h1, h2, rfl⟩ := tinfo_some ht
  obtain ⟨fields, rfl, rfl, _⟩ := tkOf_struct hk
  cases h with
  | bool g => rw [g] at h2; cases h2
  | int g wf => rw [g] at h2; cases h2
  | str g hs hb => rw [g] at h2; cases h2
  | slice g hr hb => rw [g] at h2; cases h2
  | array g hl hp => rw [g] at h2; cases h2
  | struct g hl hp =>
    rw [g] at h2; cases h2
    refine ⟨_, rfl, by simpa using hl, fun i x r hx hr => ?_⟩
    rw [List.getElem?_map, Option.map_eq_some_iff] at hx
    obtain ⟨f, hf, rfl⟩ := hx
    exact hp i f r (by simpa using hf) hr
end
end Go.Pv
namespace Go.Pv
open Go Go.RowKit Go.ChangeShapes Go.WideShapes Go.ChangeAt
set_option linter.unusedVariables false
set_option linter.unusedSimpArgs false

def argOf (P : Program) (t : TypeId) (row : List PV) : PV := if aggOf P t then .agg row else row.headD .any
def AllTy (P : Program) : List TypeId → List (List PV) → Prop
  | [], [] => True
  | t :: ts, r :: rs => HasTy P t r ∧ AllTy P ts rs
  | _, _ => False
def argsOf (P : Program) : List TypeId → List (List PV) → List PV
  | t :: ts, r :: rs => argOf P t r :: argsOf P ts rs
  | _, _ => []

section
variable {H : Type} {enc : TypeId × Value → H} {P : Program} {S : List TypeId} {w : World} {spare : Nat → Bool} {held : Bool}

theorem arg_rel (hS : ∀ t, S.contains t = true → tyOK P S t = true) {base : Nat} {t : TypeId} {v : Value} {d : DataW H} {ps : List MemPlace} (ht : S.contains t = true)
    (hok : Value.okWide P w .any base t v) (h : DataW.Trod enc P w 0 spare held t v d ps) (hz : ∀ n ∈ DataW.weights P t d, n ≤ reachBytes) : ∃ row, HasTy P t row ∧ Rel (heapOf w) noSig (argOf P t row) v := by
  obtain ⟨fuel, h⟩ := h
  obtain ⟨row, h1, h2⟩ := trod_rel hS fuel t _ _ ht h hz
  refine ⟨row, h1, ?_⟩
  have htO := hS t ht
  have plain : aggOf P t = false → v.cells = #[v] → Rel (heapOf w) noSig (argOf P t row) v := by
    intro ha hc
    rw [hc] at h2
    obtain ⟨h3, h4⟩ := h2
    simp only [List.length_cons, List.length_nil] at h3
    obtain ⟨x, rfl⟩ := List.length_eq_one_iff.1 h3
    unfold argOf; rw [ha]
    exact h4 0 x v rfl rfl
  unfold Value.okWide at hok
  unfold tyOK at htO
  unfold aggOf at plain
  split at htO
  · rename_i hu
    rw [hu] at hok plain
    simp only [Cell.okWide, Cell.ok, hu] at hok
    cases v <;> first | exact hok.elim | exact plain rfl rfl
  · rename_i k hu
    rw [hu] at hok plain
    simp only [Cell.okWide, Cell.ok, hu] at hok
    cases v <;> first | exact hok.elim | exact plain rfl rfl
  · rename_i hu
    rw [hu] at hok plain
    simp only [Cell.okWide, Cell.ok, hu] at hok
    cases v <;> first | exact hok.elim | exact plain rfl rfl
  · rename_i e hu
    rw [hu] at hok plain
    simp only [Cell.okWide, Cell.ok, hu] at hok
    cases v <;> first | exact hok.elim | exact plain rfl rfl
  · rename_i fs hu
    rw [hu] at hok
    obtain ⟨cs, rfl, _, _⟩ := hok
    have : argOf P t row = .agg row := by unfold argOf aggOf; rw [hu]; rfl
    rw [this]
    refine .agg (by have := h2.1; simp [Value.cells] at this; omega) fun j x c hx hc => h2.2 j x c hx (by simpa [Value.cells] using hc)
  · rename_i n e hu
    rw [hu] at hok
    obtain ⟨cs, rfl, _, _⟩ := hok
    have : argOf P t row = .agg row := by unfold argOf aggOf; rw [hu]; rfl
    rw [this]
    refine .agg (by have := h2.1; simp [Value.cells] at this; omega) fun j x c hx hc => h2.2 j x c hx (by simpa [Value.cells] using hc)
  · cases htO

theorem args_rel (hS : ∀ t, S.contains t = true → tyOK P S t = true) {base : Nat} : ∀ (ts : List TypeId) (vs : List Value) (ds : List (DataW H)) (ps : List MemPlace), (ts.all fun t => S.contains t) = true →
    (∀ (j : Nat) t v, ts[j]? = some t → vs[j]? = some v → Value.okWide P w .any base t v) → DataW.TrodAll enc P w 0 spare held ts vs ds ps → (∀ n ∈ DataW.weightsEach P ts ds, n ≤ reachBytes) →
    ∃ rows, AllTy P ts rows ∧ RowRel (heapOf w) (argsOf P ts rows) vs ∧ ds.length = ts.length := by
  intro ts
  induction ts with
  | nil =>
    intro vs ds ps _ _ h _
    cases vs <;> cases ds <;> first | exact h.elim | skip
    exact ⟨[], trivial, .nil, rfl⟩
  | cons t ts ih =>
    intro vs ds ps hin hok h hz
    cases vs with
    | nil => exact h.elim
    | cons v vs =>
      cases ds with
      | nil => exact h.elim
      | cons d ds =>
        obtain ⟨p, q, h1, h2, _⟩ := h
        simp only [List.all_cons, Bool.and_eq_true] at hin
        simp only [DataW.weightsEach, List.mem_append] at hz
        obtain ⟨row, g1, g2⟩ := arg_rel hS hin.1 (hok 0 t v rfl rfl) h1 fun n hn => hz n (.inl hn)
        obtain ⟨rows, g3, g4, g5⟩ := ih vs ds q hin.2 (fun j t v a b => hok (j + 1) t v (by simpa using a) (by simpa using b)) h2 fun n hn => hz n (.inr hn)
        refine ⟨row :: rows, ⟨g1, g3⟩, ?_, by simp [g5]⟩
        exact (RowRel.one g2).append g4

theorem args_again {W W' : World} (hl : laidOutB P = true) : ∀ (ts : List TypeId) (vs : List Value) (ds : List (DataW H)) (ps : List MemPlace), (ts.all fun t => P.readableRec t && decide (t < P.types.size)) = true →
    DataW.TrodAll enc P W 0 (fun _ => true) true ts vs ds ps → Below W.heap.size W W' → (∀ x ∈ ps, x.block < W.heap.size) → DataW.TrodAll enc P W' 0 (fun b => decide (b < W.heap.size)) true ts vs ds ps := by
  intro ts
  induction ts with
  | nil => intro vs ds ps _ h _ _; cases vs <;> cases ds <;> first | exact h.elim | exact h
  | cons t ts ih =>
    intro vs ds ps hin h hb hlt
    cases vs with
    | nil => exact h.elim
    | cons v vs =>
      cases ds with
      | nil => exact h.elim
      | cons d ds =>
        obtain ⟨p, q, h1, h2, rfl⟩ := h
        simp only [List.all_cons, Bool.and_eq_true, decide_eq_true_eq] at hin
        exact ⟨p, q, Below.trod hl hin.1.1 hin.1.2 h1 hb (fun x hx => hlt x (by simp [hx])), ih vs ds q hin.2 h2 hb (fun x hx => hlt x (by simp [hx])), rfl⟩

theorem SR.below {pub pub' : PHeap} {σ' : Sig} {s' : Store} {w' : World} (h : SR ⟨w, pub, noSig, dom [] noSig⟩ pub' σ' s' w') : Below w.heap.size w w' :=
  ⟨h.os, h.tape, h.output, h.size, fun k hk => (h.frame k hk (dom_nil _ _)).1⟩

theorem law_contract {f : FuncId} {fn : Func} {s : ChangeSpec} {tb : TypeId} (S : List TypeId) (hS : (S.all fun t => tyOK P S t) = true) (hl : laidOutB P = true)
    (hp1 : (fn.params.toList.all fun t => S.contains t) = true) (hp2 : (fn.params.toList.all fun t => P.readableRec t && decide (t < P.types.size)) = true)
    (hv : s.vars = []) (hr : fn.resultTypes = #[tb]) (hb : P.underlying tb = some .bool)
    (hs : ∀ ds : List (DataW H), ds.length = fn.params.toList.length → s.fn H ds = { results := [.lit (.bool true)], args := ds })
    (h : ∀ rows : List (List PV), AllTy P fn.params.toList rows → CallOK P f (argsOf P fn.params.toList rows) [] (.bool true) [])
    (W : World) (base : Nat) (args : Array Value) (ds gs : List (DataW H)) (before : List MemPlace) (hval : ∀ (j : Nat) t v, fn.params[j]? = some t → args[j]? = some v → Value.okWide P W .any base t v)
    (hW : DataW.Whole enc P fn.params.toList s.vars false W args.toList ds gs before)
    (hz : (DataW.weightsEach P (fn.params.toList ++ s.plain.varTypes P) (ds ++ gs)).all (· ≤ reachBytes) = true) :
    Calls P f args W fun e W' => ∃ v, e = .returned v ∧ s.post enc P fn false true false false W args v W' := by
  have hW' := hW
  obtain ⟨p, q, hA, hV, rfl, hfz, hnd⟩ := hW
  rw [hv] at hV
  have hgq : gs = [] ∧ q = [] := by cases gs <;> first | exact ⟨rfl, hV⟩ | exact hV.elim
  obtain ⟨rfl, rfl⟩ := hgq
  have hS' : ∀ t, S.contains t = true → tyOK P S t = true := fun t ht => List.all_eq_true.1 hS t (by simpa using ht)
  have hzz : ∀ n ∈ DataW.weightsEach P fn.params.toList ds, n ≤ reachBytes := by
    intro n hn
    have hvt : s.plain.varTypes P = [] := by simp [DataSpec.varTypes, ChangeSpec.plain, hv]
    rw [hvt, List.append_nil, List.append_nil] at hz
    simpa using List.all_eq_true.1 hz n hn
  obtain ⟨rows, h1, h2, h3⟩ := args_rel hS' fn.params.toList args.toList ds p hp1 (fun j t v a b => hval j t v (by simpa using a) (by simpa using b)) hA hzz
  refine Calls.mono (h rows h1 (heapOf W) noSig W args (.bare fun b o hb => hb) ⟨by have := h2.1; simpa using this.symm, fun j v c hv hc => h2.2 j v c hv (by simpa using hc)⟩) ?_
  rintro e W' ⟨cv, pub', σ', rfl, hs', hrel⟩
  obtain rfl := rel_bool hrel
  have hbel := hs'.below
  refine ⟨_, rfl, ds, [], _, [], p, [], hW', ?_, ?_, ?_, hbel.frame _, fun h => by cases h⟩
  · rw [List.append_nil, hs ds h3, hr]
    exact trodAll_cons_mk (shut_bool hb _) trodAll_mk0
  · rw [List.append_nil, hs ds h3]
    exact args_again hl _ _ _ _ hp2 hA hbel (fun x hx => hW'.lt x (by simpa using hx))
  · rw [List.append_nil, hs ds h3, hv]; rfl
end

section
variable {P : Program} {t : TypeId} {ti : TI}
theorem fields_of {l : List (Nat × Nat × Nat × Bool)} (ht : tinfo P t = some ti) (hk : ti.kind = .struct l) : ∃ fs : Array Field, P.underlying t = some (.struct fs) ∧ fs.toList.map (·.type) = l.map (·.2.1) := by
  obtain ⟨i, d, h1, h2, rfl⟩ := tinfo_some ht
  obtain ⟨fields, rfl, rfl, _⟩ := tkOf_struct hk
  exact ⟨fields, h2, by simp⟩
theorem und_slice {e esz by' : Nat} {ag : Bool} {z : Option (List PV)} (ht : tinfo P t = some ti) (hk : ti.kind = .slice e esz by' ag z) : P.underlying t = some (.slice e) := by
  obtain ⟨i, d, h1, h2, rfl⟩ := tinfo_some ht
  obtain ⟨rfl, _⟩ := tkOf_slice hk; exact h2
theorem und_array {n e esz : Nat} {ag : Bool} (ht : tinfo P t = some ti) (hk : ti.kind = .array n e esz ag) : P.underlying t = some (.array n e) := by
  obtain ⟨i, d, h1, h2, rfl⟩ := tinfo_some ht
  obtain ⟨rfl, _⟩ := tkOf_array hk; exact h2
theorem und_int {k : IntKind} (ht : tinfo P t = some ti) (hk : ti.kind = .int k) : P.underlying t = some (.int k) := by
  obtain ⟨i, d, h1, h2, rfl⟩ := tinfo_some ht
  obtain rfl := tkOf_int hk; exact h2
theorem und_bool (ht : tinfo P t = some ti) (hk : ti.kind = .bool) : P.underlying t = some .bool := by
  obtain ⟨i, d, h1, h2, rfl⟩ := tinfo_some ht
  obtain rfl := tkOf_bool hk; exact h2
theorem und_string (ht : tinfo P t = some ti) (hk : ti.kind = .string) : P.underlying t = some .string := by
  obtain ⟨i, d, h1, h2, rfl⟩ := tinfo_some ht
  obtain rfl := tkOf_string hk; exact h2
end
theorem list_of {α : Type} (g : α → List PV) : ∀ (rows : List (List PV)), (∀ row ∈ rows, ∃ x, row = g x) → ∃ l : List α, rows = l.map g := by
  intro rows
  induction rows with
  | nil => intro _; exact ⟨[], rfl⟩
  | cons r rs ih =>
    intro h
    obtain ⟨x, rfl⟩ := h r (by simp)
    obtain ⟨l, rfl⟩ := ih fun row hr => h row (by simp [hr])
    exact ⟨x :: l, rfl⟩
theorem three_of {α : Type} (l : List α) (h : l.length = 3) : ∃ a b c, l = [a, b, c] := by
  match l, h with
  | [a, b, c], _ => exact ⟨a, b, c, rfl⟩
theorem two_of {α : Type} (l : List α) (h : l.length = 2) : ∃ a b, l = [a, b] := by
  match l, h with
  | [a, b], _ => exact ⟨a, b, rfl⟩
theorem argOf_agg {P : Program} {t : TypeId} {ti : TI} {row : List PV} (ht : tinfo P t = some ti) (ha : ti.agg = true) : argOf P t row = .agg row := by
  obtain ⟨i, d, h1, h2, rfl⟩ := tinfo_some ht
  unfold argOf; rw [if_pos ha]
theorem argOf_one {P : Program} {t : TypeId} {ti : TI} {v : PV} (ht : tinfo P t = some ti) (ha : ti.agg = false) : argOf P t [v] = v := by
  obtain ⟨i, d, h1, h2, rfl⟩ := tinfo_some ht
  have ha' : aggOf P t = false := ha
  unfold argOf; rw [ha']; rfl
theorem allTy_cons {P : Program} {t : TypeId} {ts : List TypeId} {rows : List (List PV)} (h : AllTy P (t :: ts) rows) : ∃ r rs, rows = r :: rs ∧ HasTy P t r ∧ AllTy P ts rs := by
  cases rows with
  | nil => exact h.elim
  | cons r rs => exact ⟨r, rs, rfl, h.1, h.2⟩
theorem allTy_nil {P : Program} {rows : List (List PV)} (h : AllTy P [] rows) : rows = [] := by
  cases rows with
  | nil => rfl
  | cons r rs => exact h.elim
end Go.Pv
namespace Go.Proofs.Ytbmpmmbcfabeeaa
open Go Go.Pv
set_option linter.unusedVariables false
set_option linter.unusedSimpArgs false

theorem int_of {row : List PV} (h : HasTy Try.prog 3 row) : ∃ n, row = [.int .i64 n] ∧ -9223372036854775808 ≤ n ∧ n ≤ 9223372036854775807 := by
  obtain ⟨n, rfl, hw⟩ := h.int' (und_int ty3 rfl)
  exact ⟨n, rfl, bounds_i64 hw⟩
theorem str_of {row : List PV} (h : HasTy Try.prog 9 row) : ∃ s, row = [.str s] := by
  obtain ⟨s, rfl, _⟩ := h.str' (und_string ty9 rfl)
  exact ⟨s, rfl⟩

theorem fm_aux {t : TypeId} {row : List PV} (h : HasTy Try.prog t row) : (t = 24 → ∃ f, row = frm f) ∧ (t = 22 → ∃ l : List Fm, row = [.list (l.map frm)]) := by
  have hs := fields_of ty24 rfl
  have hl := und_slice ty22 rfl
  obtain ⟨fs, hs, hf⟩ := hs
  induction h with
  | bool g => refine ⟨?_, ?_⟩ <;> rintro rfl <;> first | (rw [g] at hs; cases hs; done) | (rw [g] at hl; cases hl; done)
  | int g => refine ⟨?_, ?_⟩ <;> rintro rfl <;> first | (rw [g] at hs; cases hs; done) | (rw [g] at hl; cases hl; done)
  | str g => refine ⟨?_, ?_⟩ <;> rintro rfl <;> first | (rw [g] at hs; cases hs; done) | (rw [g] at hl; cases hl; done)
  | array g => refine ⟨?_, ?_⟩ <;> rintro rfl <;> first | (rw [g] at hs; cases hs; done) | (rw [g] at hl; cases hl; done)
  | slice g hr hb ih =>
    refine ⟨?_, ?_⟩
    · rintro rfl; rw [g] at hs; cases hs
    · rintro rfl; rw [g] at hl; cases hl
      obtain ⟨l, rfl⟩ := list_of frm _ fun row hrow => (ih row hrow).1 rfl
      exact ⟨l, rfl⟩
  | struct g hlen hp ih =>
    refine ⟨?_, ?_⟩
    · rintro rfl; rw [g] at hs; cases hs
      have h3 : fs.toList.length = 3 := by simpa using congrArg List.length hf
      obtain ⟨a, b, c, hfs⟩ := three_of _ h3
      rw [hfs] at hf
      simp only [List.map_cons, List.map_nil, List.cons.injEq, and_true] at hf
      obtain ⟨ha, hb, hc⟩ := hf
      have hg : ∀ i, fs[i]? = [a, b, c][i]? := fun i => by rw [← hfs, Array.getElem?_toList]
      obtain ⟨r0, r1, r2, rfl⟩ := three_of _ (hlen.trans (by simpa using h3))
      obtain ⟨n, rfl, _⟩ := int_of (by have := hp 0 a r0 (by rw [hg]; rfl) rfl; rw [ha] at this; exact this)
      obtain ⟨s, rfl⟩ := str_of (by have := hp 1 b r1 (by rw [hg]; rfl) rfl; rw [hb] at this; exact this)
      obtain ⟨l, rfl⟩ := (ih 2 c r2 (by rw [hg]; rfl) rfl).2 hc
      exact ⟨.mk n s l, by rw [frm_eq]; rfl⟩
    · rintro rfl; rw [g] at hl; cases hl
theorem fm_of {row : List PV} (h : HasTy Try.prog 24 row) : ∃ f, row = frm f := (fm_aux h).1 rfl

theorem mdl_of {row : List PV} (h : HasTy Try.prog 61 row) : ∃ m : Mdl, row = mdl m := by
  obtain ⟨parts, rfl, h1, h2⟩ := h.struct' ty61 rfl
  obtain ⟨r0, r1, r2, rfl⟩ := three_of _ h1
  obtain ⟨n, rfl, _⟩ := int_of (h2 0 _ r0 rfl rfl)
  obtain ⟨rows, rfl, hr⟩ := (h2 1 _ r1 rfl rfl).slice' (und_slice ty58 rfl)
  obtain ⟨rows2, rfl, hr2⟩ := (h2 2 _ r2 rfl rfl).slice' (und_slice ty59 rfl)
  obtain ⟨rel, rfl⟩ := list_of relRow rows fun row hrow => by
    obtain ⟨ps, rfl, g1, g2⟩ := (hr row hrow).array' (und_array ty130 rfl)
    obtain ⟨x, y, rfl⟩ := two_of _ g1
    obtain ⟨a, rfl, _⟩ := int_of (g2 x (by simp))
    obtain ⟨b, rfl, _⟩ := int_of (g2 y (by simp))
    exact ⟨(a, b), rfl⟩
  obtain ⟨tr, rfl⟩ := list_of strsRow rows2 fun row hrow => by
    obtain ⟨rs, rfl, g2⟩ := (hr2 row hrow).slice' (und_slice ty53 rfl)
    obtain ⟨l, rfl⟩ := list_of strRow rs fun r hr => str_of (g2 r hr)
    exact ⟨l, rfl⟩
  exact ⟨⟨n, rel, tr⟩, rfl⟩

end Go.Proofs.Ytbmpmmbcfabeeaa
namespace Go.Proofs.Ytbmpmmbcfabeeaa
open Go Go.Pv
set_option linter.unusedVariables false
set_option linter.unusedSimpArgs false
theorem bool_of {row : List PV} (h : HasTy Try.prog 4 row) : ∃ b, row = [.bool b] := by
  obtain ⟨b, rfl⟩ := h.bool' (und_bool ty4 rfl)
  exact ⟨b, rfl⟩
theorem strs_of {row : List PV} (h : HasTy Try.prog 53 row) : ∃ l : List ByteArray, row = [.list (l.map strRow)] := by
  obtain ⟨rs, rfl, g2⟩ := h.slice' (und_slice ty53 rfl)
  obtain ⟨l, rfl⟩ := list_of strRow rs fun r hr => str_of (g2 r hr)
  exact ⟨l, rfl⟩
theorem tab_of {row : List PV} (h : HasTy Try.prog 48 row) : ∃ t : Tab, row = tab t := by
  obtain ⟨parts, rfl, h1, h2⟩ := h.struct' ty48 rfl
  obtain ⟨r0, r1, rfl⟩ := two_of _ h1
  obtain ⟨n, rfl, _⟩ := int_of (h2 0 _ r0 rfl rfl)
  obtain ⟨rows, rfl, hr⟩ := (h2 1 _ r1 rfl rfl).slice' (und_slice ty46 rfl)
  obtain ⟨l, rfl⟩ := list_of boolRow rows fun r hr' => bool_of (hr r hr')
  exact ⟨⟨n, l⟩, rfl⟩
theorem tabs_of {row : List PV} (h : HasTy Try.prog 40 row) : ∃ l : List Tab, row = [.list (l.map tab)] := by
  obtain ⟨rs, rfl, g2⟩ := h.slice' (und_slice ty40 rfl)
  obtain ⟨l, rfl⟩ := list_of tab rs fun r hr => tab_of (g2 r hr)
  exact ⟨l, rfl⟩
end Go.Proofs.Ytbmpmmbcfabeeaa
namespace Go.Proofs.Ytbmpmmbcfabeeaa
open Go Go.Pv
set_option linter.unusedVariables false
set_option linter.unusedSimpArgs false
set_option maxRecDepth 100000
set_option maxHeartbeats 4000000

def x50 : XC := .seq (.reg [⟨some 2,.alloc 24,none⟩]) (.seq (.reg [⟨some 3,.move (.tmp 0),none⟩,⟨some 4,.build 24 #[(0,.const (.int .i64 1)),(1,.tmp 3)],none⟩,⟨none,.store 24 (.tmp 2) (.tmp 4),none⟩]) (.ret))
@[simp] theorem x50_s {C : WC} {e : AE} {s : Store} {K : KS} : type_of% (@X_at C e s K _ _ x50.eq_1) := X_at x50.eq_1
def an50 : Ann := ⟨[], [], []⟩
def cx50 (P : Program) (m : Nat) : WC := ⟨P, m, an50⟩
@[simp] theorem cx50_a {P : Program} {m : Nat} : (cx50 P m).P = P ∧ (cx50 P m).m = m := ⟨rfl, rfl⟩
instance {P : Program} {m f : Nat} [h : EnT P f] : EnT (cx50 P m).P f := h
theorem chk50 : ∀ c, Try.f50.body = some c → chkC Try.f50.ntmps an50 c = true := by intro c h; obtain rfl := Option.some.inj h; decide +kernel
theorem os50 {args : List PV} {v : PV} (h : X (cx50 Try.prog 0) x50 (argsA 0 args) [] (.fin [.cell 2 24] fun v1 s1 => softV (deref s1 6 v1) = v)) (hl : args.length ≤ Try.f50.ntmps := by rw [Try.ntmps50]; simp) : CallOK Try.prog 50 args [] v [] :=
  callXF (m := 0) (cx50 Try.prog 0) x50 rfl rfl (by kernel_rfl) Try.func50 rfl rfl hl mixed (chk50 _ rfl) (by rw [Try.results50]; exact h)

theorem named_law (nm : ByteArray) : CallOK Try.prog 50 [.str nm] [] (.agg (frm (.mk 1 nm []))) [] := by
  refine os50 ?_
  (((try simp (implicitDefEqProofs := false)); (try simp (implicitDefEqProofs := false) (disch := first | assumption | (try simp only [lens]); omega -splitDisjunctions))); all_goals try (repeat' ((first | ((with_reducible first | refine And.intro ?_ ?_ | refine Exists.intro ?_ ?_); first | omega | (simp <;> omega)) | (with_reducible refine spl (And.intro ?_ ?_) <;> intro _)) <;> ((try simp (implicitDefEqProofs := false)); (try simp (implicitDefEqProofs := false) (disch := first | assumption | (try simp only [lens]); omega -splitDisjunctions))))))
  rw [frm_eq]; rfl
def x36 : XC := .seq (.reg [⟨some 4,.box 24 (.tmp 1),none⟩,⟨some 5,.box 24 (.tmp 2),none⟩,⟨some 6,.alloc 24,none⟩]) (.seq (.reg [⟨some 7,.move (.tmp 0),none⟩,⟨some 8,.load 24 (.tmp 4),none⟩,⟨some 9,.load 24 (.tmp 5),none⟩,⟨some 10,.buildSlice 22 2 #[(0,.tmp 8),(1,.tmp 9)],none⟩,⟨some 11,.build 24 #[(0,.tmp 7),(2,.tmp 10)],none⟩,⟨none,.store 24 (.tmp 6) (.tmp 11),none⟩]) (.ret))
@[simp] theorem x36_s {C : WC} {e : AE} {s : Store} {K : KS} : type_of% (@X_at C e s K _ _ x36.eq_1) := X_at x36.eq_1
def an36 : Ann := ⟨[], [], []⟩
def cx36 (P : Program) (m : Nat) : WC := ⟨P, m, an36⟩
@[simp] theorem cx36_a {P : Program} {m : Nat} : (cx36 P m).P = P ∧ (cx36 P m).m = m := ⟨rfl, rfl⟩
instance {P : Program} {m f : Nat} [h : EnT P f] : EnT (cx36 P m).P f := h
theorem chk36 : ∀ c, Try.f36.body = some c → chkC Try.f36.ntmps an36 c = true := by intro c h; obtain rfl := Option.some.inj h; decide +kernel
theorem os36 {args : List PV} {v : PV} (h : X (cx36 Try.prog 0) x36 (argsA 0 args) [] (.fin [.cell 6 24] fun v1 s1 => softV (deref s1 6 v1) = v)) (hl : args.length ≤ Try.f36.ntmps := by rw [Try.ntmps36]; simp) : CallOK Try.prog 36 args [] v [] :=
  callXF (m := 0) (cx36 Try.prog 0) x36 rfl rfl (by kernel_rfl) Try.func36 rfl rfl hl mixed (chk36 _ rfl) (by rw [Try.results36]; exact h)

theorem bothN_law (k : Int) (f g : Fm) : CallOK Try.prog 36 [.int .i64 k, .agg (frm f), .agg (frm g)] [] (.agg (frm (.mk k ⟨#[]⟩ [f, g]))) [] := by
  refine os36 ?_
  (((try simp (implicitDefEqProofs := false)); (try simp (implicitDefEqProofs := false) (disch := first | assumption | (try simp only [lens]); omega -splitDisjunctions))); all_goals try (repeat' ((first | ((with_reducible first | refine And.intro ?_ ?_ | refine Exists.intro ?_ ?_); first | omega | (simp <;> omega)) | (with_reducible refine spl (And.intro ?_ ?_) <;> intro _)) <;> ((try simp (implicitDefEqProofs := false)); (try simp (implicitDefEqProofs := false) (disch := first | assumption | (try simp only [lens]); omega -splitDisjunctions))))))
  conv => rhs; rw [frm_eq]
  rfl
def bgF : Fm := .mk 7 ⟨#[]⟩ [.mk 1 ⟨#[112]⟩ [], .mk 1 ⟨#[113]⟩ []]
theorem bg_names : namesF bgF = [⟨#[112]⟩, ⟨#[113]⟩] := by unfold namesF; rw [comp_ins]; kernel_rfl
theorem bg_plain : plainF bgF = (0, 0) := by kernel_rfl
theorem bg_fst : fstF (rowsB [⟨#[112]⟩, ⟨#[113]⟩] bgF) = some 1 := by kernel_rfl
theorem bg_few : fewV bgF = ([⟨#[112]⟩, ⟨#[113]⟩], (0, 0)) := by unfold fewV; rw [bg_plain, bg_names]; rfl
theorem bg_valid : validV bgF = (false, [⟨#[112]⟩]) := by unfold validV; rw [bg_few, bg_names, bg_fst]; rfl
theorem bg_comp : compV [⟨2, [true, true, true, false]⟩] = (true, [false, false, false, false, false]) := by kernel_rfl
theorem bg_tabF : tabF [⟨2, [true, true, true, false]⟩] = (0, 0) := by kernel_rfl
def x28 : XC := .seq (.reg [⟨some 0,.assign (.const (.bool false)),none⟩]) (.seq (.reg [⟨some 8,.call ⟨.value (.func 50),#[.const (.string ⟨#[112]⟩)],#[9]⟩,none⟩,⟨some 9,.call ⟨.value (.func 50),#[.const (.string ⟨#[113]⟩)],#[9]⟩,none⟩,⟨some 10,.call ⟨.value (.func 36),#[.const (.int .i64 7),.tmp 8,.tmp 9],#[3,24,24]⟩,none⟩,⟨some 11,.call ⟨.value (.func 35),#[.tmp 10],#[24]⟩,none⟩,⟨some 7,.move (.tmp 11),none⟩,⟨some 12,.extract (.tmp 7) 0,none⟩,⟨some 13,.extract (.tmp 7) 1,none⟩,⟨some 14,.extract (.tmp 7) 2,none⟩,⟨some 3,.alloc 29,none⟩,⟨some 1,.assign (.tmp 12),none⟩,⟨some 2,.assign (.tmp 13),none⟩,⟨none,.store 29 (.tmp 3) (.tmp 14),none⟩]) (.seq (.reg [⟨some 16,.buildSlice 46 4 #[(0,.const (.bool true)),(1,.const (.bool true)),(2,.const (.bool true)),(3,.const (.bool false))],none⟩,⟨some 17,.build 48 #[(0,.const (.int .i64 2)),(1,.tmp 16)],none⟩,⟨some 18,.buildSlice 40 1 #[(0,.tmp 17)],none⟩,⟨some 19,.call ⟨.value (.func 26),#[.tmp 18],#[40]⟩,none⟩,⟨some 15,.move (.tmp 19),none⟩,⟨some 20,.extract (.tmp 15) 0,none⟩,⟨some 21,.extract (.tmp 15) 1,none⟩,⟨some 22,.extract (.tmp 15) 2,none⟩,⟨some 5,.alloc 41,none⟩,⟨some 6,.alloc 29,none⟩,⟨some 4,.assign (.tmp 20),none⟩,⟨none,.store 41 (.tmp 5) (.tmp 21),none⟩,⟨none,.store 29 (.tmp 6) (.tmp 22),none⟩]) (.seq (.reg [⟨some 23,.fieldAddr 29 (.tmp 3) 0,none⟩,⟨some 24,.load 3 (.tmp 23),none⟩,⟨some 25,.binOp .eql 3 (.tmp 24) (.const (.int .i64 0)) 3,none⟩,⟨some 26,.move (.tmp 25),none⟩,⟨some 27,.fieldAddr 29 (.tmp 6) 0,some (some 26,true)⟩,⟨some 28,.load 3 (.tmp 27),some (some 26,true)⟩,⟨some 29,.binOp .eql 3 (.tmp 28) (.const (.int .i64 0)) 3,some (some 26,true)⟩,⟨some 30,.pick (.tmp 26) (.tmp 29) (.const (.bool false)),none⟩,⟨some 31,.move (.tmp 30),none⟩,⟨some 32,.move (.tmp 1),some (some 31,true)⟩,⟨some 33,.unOp .not 4 (.tmp 32),some (some 31,true)⟩,⟨some 34,.pick (.tmp 31) (.tmp 33) (.const (.bool false)),none⟩,⟨some 35,.move (.tmp 34),none⟩,⟨some 36,.move (.tmp 2),some (some 35,true)⟩,⟨some 37,.buildSlice 53 1 #[(0,.const (.string ⟨#[112]⟩))],some (some 35,true)⟩,⟨some 38,.call ⟨.value (.func 59),#[.tmp 36,.tmp 37],#[53,53]⟩,some (some 35,true)⟩,⟨some 39,.pick (.tmp 35) (.tmp 38) (.const (.bool false)),none⟩,⟨some 40,.move (.tmp 39),none⟩,⟨some 41,.move (.tmp 4),some (some 40,true)⟩,⟨some 42,.pick (.tmp 40) (.tmp 41) (.const (.bool false)),none⟩,⟨some 0,.assign (.tmp 42),none⟩]) (.ret))))
@[simp] theorem x28_s {C : WC} {e : AE} {s : Store} {K : KS} : type_of% (@X_at C e s K _ _ x28.eq_1) := X_at x28.eq_1
def an28 : Ann := ⟨[], [], []⟩
def cx28 (P : Program) (m : Nat) : WC := ⟨P, m, an28⟩
@[simp] theorem cx28_a {P : Program} {m : Nat} : (cx28 P m).P = P ∧ (cx28 P m).m = m := ⟨rfl, rfl⟩
instance {P : Program} {m f : Nat} [h : EnT P f] : EnT (cx28 P m).P f := h
theorem chk28 : ∀ c, Try.f28.body = some c → chkC Try.f28.ntmps an28 c = true := by intro c h; obtain rfl := Option.some.inj h; decide +kernel
theorem op28 {args : List PV} {v : PV} (h : X (cx28 Try.prog 0) x28 (argsA 0 args) [] (.fin [.tmp 0] fun v1 s1 => deref s1 6 v1 = v)) (hl : args.length ≤ Try.f28.ntmps := by rw [Try.ntmps28]; simp) : CallOK Try.prog 28 args [] v [] :=
  callX (m := 0) (cx28 Try.prog 0) x28 rfl rfl (by kernel_rfl) Try.func28 rfl rfl hl mixed (chk28 _ rfl) (by rw [Try.results28]; exact h)

theorem truthBegun_law : CallOK Try.prog 28 [] [] (.bool true) [] := by
  have hv := Valid_truth bgF
  rw [bg_few, bg_valid] at hv
  have hc := Complete_truth [⟨2, [true, true, true, false]⟩]
  rw [bg_comp, bg_tabF] at hc
  have ht := Texts_ref [⟨#[112]⟩] [⟨#[112]⟩]
  rw [decide_eq_true rfl] at ht
  have hn1 := named_law ⟨#[112]⟩
  have hn2 := named_law ⟨#[113]⟩
  have hb : CallOK Try.prog 36 [.int .i64 7, .agg (frm (.mk 1 ⟨#[112]⟩ [])), .agg (frm (.mk 1 ⟨#[113]⟩ []))] [] (.agg (frm bgF)) [] := bothN_law 7 (.mk 1 ⟨#[112]⟩ []) (.mk 1 ⟨#[113]⟩ [])
  simp only [List.map_cons, List.map_nil, tab, boolRow, strRow] at hc ht hv
  generalize bgF = f at *
  refine op28 ?_
  (((try simp (implicitDefEqProofs := false)); (try simp (implicitDefEqProofs := false) (disch := first | assumption | (try simp only [lens]); omega -splitDisjunctions))); all_goals try (repeat' ((first | ((with_reducible first | refine And.intro ?_ ?_ | refine Exists.intro ?_ ?_); first | omega | (simp <;> omega)) | (with_reducible refine spl (And.intro ?_ ?_) <;> intro _) | (refine CL.clo (hn1) ?_) | (refine CM.clo (hn1) ?_) | (refine CD.clo (hn1) ?_) | (refine CL.clo (hn2) ?_) | (refine CM.clo (hn2) ?_) | (refine CD.clo (hn2) ?_) | (refine CL.clo (hb) ?_) | (refine CM.clo (hb) ?_) | (refine CD.clo (hb) ?_) | (refine CL.clo (hv) ?_) | (refine CM.clo (hv) ?_) | (refine CD.clo (hv) ?_)) <;> ((try simp (implicitDefEqProofs := false)); (try simp (implicitDefEqProofs := false) (disch := first | assumption | (try simp only [lens]); omega -splitDisjunctions))))))
  refine CL.giv [2] ?_
  (((try simp (implicitDefEqProofs := false)); (try simp (implicitDefEqProofs := false) (disch := first | assumption | (try simp only [lens]); omega -splitDisjunctions))); all_goals try (repeat' ((first | ((with_reducible first | refine And.intro ?_ ?_ | refine Exists.intro ?_ ?_); first | omega | (simp <;> omega)) | (with_reducible refine spl (And.intro ?_ ?_) <;> intro _) | (refine CL.clo (hc) ?_) | (refine CM.clo (hc) ?_) | (refine CD.clo (hc) ?_) | (refine CL.see (ht) ?_ ?_ ?_; (focus (first | (simp; done) | (simp [scn]; done))); (focus (simp [flats]; done))) | (refine CD.see (ht) ?_ ?_ ?_; (focus (first | (simp; done) | (simp [scn]; done))); (focus (simp [flats]; done)))) <;> ((try simp (implicitDefEqProofs := false)); (try simp (implicitDefEqProofs := false) (disch := first | assumption | (try simp only [lens]); omega -splitDisjunctions))))))
end Go.Proofs.Ytbmpmmbcfabeeaa
namespace Go.Proofs.Ytbmpmmbcfabeeaa
open Go Go.Pv
set_option linter.unusedVariables false
set_option linter.unusedSimpArgs false
set_option maxRecDepth 100000
set_option maxHeartbeats 4000000

def x6_T5 : XC := .seq (.reg [⟨some 76,.move (.tmp 10),none⟩,⟨some 77,.unOp .not 4 (.tmp 76),none⟩,⟨some 78,.move (.tmp 77),none⟩,⟨some 79,.move (.tmp 0),some (some 78,true)⟩,⟨some 80,.call ⟨.builtin .len,#[.tmp 79],#[40]⟩,some (some 78,true)⟩,⟨some 81,.binOp .gtr 3 (.tmp 80) (.const (.int .i64 3)) 3,some (some 78,true)⟩,⟨some 82,.pick (.tmp 78) (.tmp 81) (.const (.bool false)),none⟩,⟨some 83,.move (.tmp 82),none⟩,⟨some 84,.move (.tmp 3),some (some 83,false)⟩,⟨some 85,.move (.tmp 0),some (some 83,false)⟩,⟨some 86,.call ⟨.value (.func 30),#[.tmp 85],#[40]⟩,some (some 83,false)⟩,⟨some 87,.binOp .eql 4 (.tmp 84) (.tmp 86) 4,some (some 83,false)⟩,⟨some 88,.pick (.tmp 83) (.const (.bool true)) (.tmp 87),none⟩,⟨some 2,.assign (.tmp 88),none⟩]) (.ret)
def x6_L4 : XC := .seq (.seq (.reg [⟨some 61,.move (.tmp 11),none⟩,⟨some 62,.move (.tmp 0),none⟩,⟨some 63,.call ⟨.builtin .len,#[.tmp 62],#[40]⟩,none⟩,⟨some 64,.binOp .lss 3 (.tmp 61) (.tmp 63) 3,none⟩]) (.cond (.tmp 64) (.skip) (.exit 4))) (.seq (.block 5 (.reg [⟨some 67,.move (.tmp 10),none⟩,⟨some 68,.move (.tmp 67),none⟩,⟨some 69,.move (.tmp 0),some (some 68,true)⟩,⟨some 70,.move (.tmp 11),some (some 68,true)⟩,⟨some 71,.indexAddr 40 (.tmp 69) (.tmp 70),some (some 68,true)⟩,⟨some 72,.fieldAddr 48 (.tmp 71) 0,some (some 68,true)⟩,⟨some 73,.load 3 (.tmp 72),some (some 68,true)⟩,⟨some 74,.binOp .lss 3 (.tmp 73) (.const (.int .i64 4)) 3,some (some 68,true)⟩,⟨some 75,.pick (.tmp 68) (.tmp 74) (.const (.bool false)),none⟩,⟨some 10,.assign (.tmp 75),none⟩])) (.reg [⟨some 65,.move (.tmp 11),none⟩,⟨some 66,.binOp .add 3 (.tmp 65) (.const (.int .i64 1)) 3,none⟩,⟨some 11,.assign (.tmp 66),none⟩]))
def x6_T3 : XC := .seq (.reg [⟨some 10,.assign (.const (.bool true)),none⟩]) (.seq (.seq (.reg [⟨some 11,.assign (.const (.int .i64 0)),none⟩]) (.bloop 4 x6_L4)) (x6_T5))
def x6_T2 : XC := .seq (.reg [⟨some 56,.move (.tmp 7),none⟩,⟨some 57,.indexAddr 41 (.tmp 4) (.tmp 56),none⟩,⟨some 58,.load 4 (.tmp 57),none⟩,⟨some 59,.move (.tmp 8),none⟩,⟨some 60,.binOp .neq 4 (.tmp 58) (.tmp 59) 4,none⟩]) (.cond (.tmp 60) (.seq (.reg [⟨some 2,.assign (.const (.bool false)),none⟩]) (.ret)) (.skip))
def x6_L2 : XC := .seq (.seq (.reg [⟨some 41,.move (.tmp 9),none⟩,⟨some 42,.move (.tmp 0),none⟩,⟨some 43,.call ⟨.builtin .len,#[.tmp 42],#[40]⟩,none⟩,⟨some 44,.binOp .lss 3 (.tmp 41) (.tmp 43) 3,none⟩]) (.cond (.tmp 44) (.skip) (.exit 2))) (.seq (.block 3 (.reg [⟨some 47,.move (.tmp 8),none⟩,⟨some 48,.move (.tmp 47),none⟩,⟨some 49,.move (.tmp 0),some (some 48,true)⟩,⟨some 50,.move (.tmp 9),some (some 48,true)⟩,⟨some 51,.indexAddr 40 (.tmp 49) (.tmp 50),some (some 48,true)⟩,⟨some 52,.load 48 (.tmp 51),some (some 48,true)⟩,⟨some 53,.move (.tmp 7),some (some 48,true)⟩,⟨some 54,.call ⟨.value (.func 29),#[.tmp 52,.tmp 53],#[48,3]⟩,some (some 48,true)⟩,⟨some 55,.pick (.tmp 48) (.tmp 54) (.const (.bool false)),none⟩,⟨some 8,.assign (.tmp 55),none⟩])) (.reg [⟨some 45,.move (.tmp 9),none⟩,⟨some 46,.binOp .add 3 (.tmp 45) (.const (.int .i64 1)) 3,none⟩,⟨some 9,.assign (.tmp 46),none⟩]))
def x6_L0 : XC := .seq (.seq (.reg [⟨some 37,.move (.tmp 7),none⟩,⟨some 38,.binOp .lss 3 (.tmp 37) (.const (.int .i64 5)) 3,none⟩]) (.cond (.tmp 38) (.skip) (.exit 0))) (.seq (.block 1 (.seq (.reg [⟨some 8,.assign (.const (.bool true)),none⟩]) (.seq (.seq (.reg [⟨some 9,.assign (.const (.int .i64 0)),none⟩]) (.bloop 2 x6_L2)) (x6_T2)))) (.reg [⟨some 39,.move (.tmp 7),none⟩,⟨some 40,.binOp .add 3 (.tmp 39) (.const (.int .i64 1)) 3,none⟩,⟨some 7,.assign (.tmp 40),none⟩]))
def x6 : XC := .seq (.reg [⟨some 2,.assign (.const (.bool false)),none⟩]) (.seq (.reg [⟨some 13,.move (.tmp 0),none⟩,⟨some 14,.call ⟨.value (.func 26),#[.tmp 13],#[40]⟩,none⟩,⟨some 12,.move (.tmp 14),none⟩,⟨some 15,.extract (.tmp 12) 0,none⟩,⟨some 16,.extract (.tmp 12) 1,none⟩,⟨some 17,.extract (.tmp 12) 2,none⟩,⟨some 4,.alloc 41,none⟩,⟨some 5,.alloc 29,none⟩,⟨some 3,.assign (.tmp 15),none⟩,⟨none,.store 41 (.tmp 4) (.tmp 16),none⟩,⟨none,.store 29 (.tmp 5) (.tmp 17),none⟩]) (.seq (.reg [⟨some 18,.move (.tmp 0),none⟩,⟨some 19,.call ⟨.value (.func 27),#[.tmp 18],#[40]⟩,none⟩,⟨some 6,.alloc 29,none⟩,⟨none,.store 29 (.tmp 6) (.tmp 19),none⟩]) (.seq (.seq (.reg [⟨some 20,.call ⟨.value (.func 28),#[],#[]⟩,none⟩,⟨some 21,.unOp .not 4 (.tmp 20),none⟩,⟨some 22,.move (.tmp 21),none⟩,⟨some 23,.load 29 (.tmp 5),some (some 22,false)⟩,⟨some 24,.load 29 (.tmp 6),some (some 22,false)⟩,⟨some 25,.binOp .neq 29 (.tmp 23) (.tmp 24) 29,some (some 22,false)⟩,⟨some 26,.pick (.tmp 22) (.const (.bool true)) (.tmp 25),none⟩]) (.cond (.tmp 26) (.seq (.reg [⟨some 2,.assign (.const (.bool false)),none⟩]) (.ret)) (.skip))) (.seq (.seq (.reg [⟨some 27,.fieldAddr 29 (.tmp 6) 0,none⟩,⟨some 28,.load 3 (.tmp 27),none⟩,⟨some 29,.binOp .neq 3 (.tmp 28) (.const (.int .i64 0)) 3,none⟩]) (.cond (.tmp 29) (.seq (.reg [⟨some 30,.move (.tmp 3),none⟩,⟨some 31,.unOp .not 4 (.tmp 30),none⟩,⟨some 32,.move (.tmp 31),none⟩,⟨some 33,.load 41 (.tmp 4),some (some 32,true)⟩,⟨some 34,.build 41 #[],some (some 32,true)⟩,⟨some 35,.binOp .eql 41 (.tmp 33) (.tmp 34) 41,some (some 32,true)⟩,⟨some 36,.pick (.tmp 32) (.tmp 35) (.const (.bool false)),none⟩,⟨some 2,.assign (.tmp 36),none⟩]) (.ret)) (.skip))) (.seq (.seq (.reg [⟨some 7,.assign (.const (.int .i64 0)),none⟩]) (.bloop 0 x6_L0)) (x6_T3))))))
@[simp] theorem x6_s {C : WC} {e : AE} {s : Store} {K : KS} : type_of% (@X_at C e s K _ _ x6_T5.eq_1) ∧ type_of% (@X_at C e s K _ _ x6_L4.eq_1) ∧ type_of% (@X_at C e s K _ _ x6_T3.eq_1) ∧ type_of% (@X_at C e s K _ _ x6_T2.eq_1) ∧ type_of% (@X_at C e s K _ _ x6_L2.eq_1) ∧ type_of% (@X_at C e s K _ _ x6_L0.eq_1) ∧ type_of% (@X_at C e s K _ _ x6.eq_1) := ⟨X_at x6_T5.eq_1, X_at x6_L4.eq_1, X_at x6_T3.eq_1, X_at x6_T2.eq_1, X_at x6_L2.eq_1, X_at x6_L0.eq_1, X_at x6.eq_1⟩
def an6 : Ann := ⟨[], [(4, [], [0, 3, 10, 11], [0, 3, 10]), (2, [], [0, 3, 4, 7, 8, 9], [0, 3, 4, 7, 8]), (0, [], [0, 3, 4, 7], [0, 2, 3])], []⟩
def cx6 (P : Program) (m : Nat) : WC := ⟨P, m, an6⟩
@[simp] theorem cx6_a {P : Program} {m : Nat} : (cx6 P m).P = P ∧ (cx6 P m).m = m ∧ (cx6 P m).A.loopOf 4 = ([], [0, 3, 10, 11], [0, 3, 10]) ∧ (cx6 P m).A.loopOf 2 = ([], [0, 3, 4, 7, 8, 9], [0, 3, 4, 7, 8]) ∧ (cx6 P m).A.loopOf 0 = ([], [0, 3, 4, 7], [0, 2, 3]) := ⟨rfl, rfl, rfl, rfl, rfl⟩
instance {P : Program} {m f : Nat} [h : EnT P f] : EnT (cx6 P m).P f := h
theorem chk6 : ∀ c, Try.f6.body = some c → chkC Try.f6.ntmps an6 c = true := by intro c h; obtain rfl := Option.some.inj h; decide +kernel
theorem op6 {args : List PV} {v : PV} (h : X (cx6 Try.prog 0) x6 (argsA 0 args) [] (.fin [.tmp 2] fun v1 s1 => deref s1 6 v1 = v)) (hl : args.length ≤ Try.f6.ntmps := by rw [Try.ntmps6]; simp) : CallOK Try.prog 6 args [] v [] :=
  callX (m := 0) (cx6 Try.prog 0) x6 rfl rfl (by kernel_rfl) Try.func6 rfl rfl hl mixed (chk6 _ rfl) (by rw [Try.results6]; exact h)

theorem truthPost_law (l : List Tab) : CallOK Try.prog 6 [.list (l.map tab)] [] (.bool true) [] := by
  have hbg := truthBegun_law
  have hcm := Complete_truth l
  have htf := TableFault_ref l
  unfold compV at hcm
  refine op6 ?_
  by_cases hz : (tabF l).1 = 0
  · rw [if_neg (by simpa using hz)] at hcm
    obtain ⟨h0, h20, hok⟩ := tabF_zero hz
    rw [h0] at hcm htf
    clear h0 hz
    have hmk := Makes_ref l (fun t ht => by obtain ⟨n, hn⟩ := hok t ht; have : t.n.toNat = n := by rw [hn.n_eq]; simp
                                            rw [this]; exact hn) (!decide (true ∈ five l)) (by rw [post]; simp)
    have hA5 : (five l).length = 5 := rfl
    have hAg : ∀ i, i < 5 → gB (five l) i = allT l i := fun i hi => by
      have : i = 0 ∨ i = 1 ∨ i = 2 ∨ i = 3 ∨ i = 4 := by omega
      rcases this with rfl | rfl | rfl | rfl | rfl <;> rfl
    generalize five l = A at *
    generalize (!decide (true ∈ A)) = c at *
    have hcell : ∀ x : PV, (false ∈ A ∧ PV.bool false = x ∨ true ∈ A ∧ PV.bool true = x) → isCell x = true := by
      rintro x (⟨_, rfl⟩ | ⟨_, rfl⟩) <;> rfl
    have hcell' := eq_true hcell
    (((try simp (implicitDefEqProofs := false) [hA5, hcell']); (try simp (implicitDefEqProofs := false) (disch := first | assumption | (try simp only [lens]); omega -splitDisjunctions) [hA5, hcell'])); all_goals try (repeat' ((first | ((with_reducible first | refine And.intro ?_ ?_ | refine Exists.intro ?_ ?_); first | omega | (simp <;> omega)) | (with_reducible refine spl (And.intro ?_ ?_) <;> intro _) | (refine CL.clo (hcm) ?_) | (refine CM.clo (hcm) ?_) | (refine CD.clo (hcm) ?_) | (refine CL.clo (htf) ?_) | (refine CM.clo (htf) ?_) | (refine CD.clo (htf) ?_) | (refine CL.clo (hbg) ?_) | (refine CM.clo (hbg) ?_) | (refine CD.clo (hbg) ?_)) <;> ((try simp (implicitDefEqProofs := false) [hA5, hcell']); (try simp (implicitDefEqProofs := false) (disch := first | assumption | (try simp only [lens]); omega -splitDisjunctions) [hA5, hcell'])))))
    refine W_of fun Q hQ => ?_
    have main : ∀ (r i : Nat), i + r = 5 → Q [(0, .list (l.map tab)), (3, .bool c), (4, .ptr 0 0 0), (7, .int .i64 (i : Int))] [.rows 5 [A.map .bool]] := by
      intro r
      induction r with
      | zero =>
        intro i hi
        obtain rfl : i = 5 := by omega
        apply hQ
        clear hQ
        (((try simp (implicitDefEqProofs := false)); (try simp (implicitDefEqProofs := false) (disch := first | assumption | (try simp only [lens]); omega -splitDisjunctions))); all_goals try (repeat' ((first | ((with_reducible first | refine And.intro ?_ ?_ | refine Exists.intro ?_ ?_); first | omega | (simp <;> omega)) | (with_reducible refine spl (And.intro ?_ ?_) <;> intro _)) <;> ((try simp (implicitDefEqProofs := false)); (try simp (implicitDefEqProofs := false) (disch := first | assumption | (try simp only [lens]); omega -splitDisjunctions))))))
        refine W_of fun Q4 hQ4 => ?_
        have main4 : ∀ r k b, k + r = l.length → Q4 [(0, .list (l.map tab)), (3, .bool c), (10, .bool b), (11, .int .i64 (k : Int))] [] := by
          intro r
          induction r with
          | zero =>
            intro k b hk
            obtain rfl : k = l.length := by omega
            apply hQ4
            clear hQ4
            cases b with
            | true => (((try simp (implicitDefEqProofs := false)); (try simp (implicitDefEqProofs := false) (disch := first | assumption | (try simp only [lens]); omega -splitDisjunctions))); all_goals try (repeat' ((first | ((with_reducible first | refine And.intro ?_ ?_ | refine Exists.intro ?_ ?_); first | omega | (simp <;> omega)) | (with_reducible refine spl (And.intro ?_ ?_) <;> intro _) | (refine CL.clo (hmk) ?_) | (refine CM.clo (hmk) ?_) | (refine CD.clo (hmk) ?_)) <;> ((try simp (implicitDefEqProofs := false)); (try simp (implicitDefEqProofs := false) (disch := first | assumption | (try simp only [lens]); omega -splitDisjunctions))))))
            | false =>
              by_cases h3 : 3 < l.length
              · have h3i : (3 : Int) < (l.length : Int) := by omega
                (((try simp (implicitDefEqProofs := false) [h3i]); (try simp (implicitDefEqProofs := false) (disch := first | assumption | (try simp only [lens]); omega -splitDisjunctions) [h3i])); all_goals try (repeat' ((first | ((with_reducible first | refine And.intro ?_ ?_ | refine Exists.intro ?_ ?_); first | omega | (simp <;> omega)) | (with_reducible refine spl (And.intro ?_ ?_) <;> intro _) | (refine CL.clo (hmk) ?_) | (refine CM.clo (hmk) ?_) | (refine CD.clo (hmk) ?_)) <;> ((try simp (implicitDefEqProofs := false) [h3i]); (try simp (implicitDefEqProofs := false) (disch := first | assumption | (try simp only [lens]); omega -splitDisjunctions) [h3i])))))
              · have h3i : ¬ (3 : Int) < (l.length : Int) := by omega
                (((try simp (implicitDefEqProofs := false) [h3i]); (try simp (implicitDefEqProofs := false) (disch := first | assumption | (try simp only [lens]); omega -splitDisjunctions) [h3i])); all_goals try (repeat' ((first | ((with_reducible first | refine And.intro ?_ ?_ | refine Exists.intro ?_ ?_); first | omega | (simp <;> omega)) | (with_reducible refine spl (And.intro ?_ ?_) <;> intro _) | (refine CL.clo (hmk) ?_) | (refine CM.clo (hmk) ?_) | (refine CD.clo (hmk) ?_)) <;> ((try simp (implicitDefEqProofs := false) [h3i]); (try simp (implicitDefEqProofs := false) (disch := first | assumption | (try simp only [lens]); omega -splitDisjunctions) [h3i])))))
          | succ r ih4 =>
            intro k b hk
            have hkl : k < l.length := by omega
            have ih4 := fun b => ih4 (k + 1) b (by omega)
            apply hQ4
            clear hQ4
            cases b with
            | false =>
              have ih4 := ih4 false
              (((try simp (implicitDefEqProofs := false) [hkl]); (try simp (implicitDefEqProofs := false) (disch := first | assumption | (try simp only [lens]); omega -splitDisjunctions) [hkl])); all_goals try (repeat' ((first | ((with_reducible first | refine And.intro ?_ ?_ | refine Exists.intro ?_ ?_); first | omega | (simp <;> omega)) | (with_reducible refine spl (And.intro ?_ ?_) <;> intro _)) <;> ((try simp (implicitDefEqProofs := false) [hkl]); (try simp (implicitDefEqProofs := false) (disch := first | assumption | (try simp only [lens]); omega -splitDisjunctions) [hkl])))))
              all_goals (all_goals first | exact ih4 | (refine at2 ih4 ?_ ?_ <;> simp; done) | (exfalso; first | omega | (simp_all; done) | (simp_all; omega)))
            | true =>
              have ih4 := ih4 (decide (l[k].n < 4))
              (((try simp (implicitDefEqProofs := false) [hkl]); (try simp (implicitDefEqProofs := false) (disch := first | assumption | (try simp only [lens]); omega -splitDisjunctions) [hkl])); all_goals try (repeat' ((first | ((with_reducible first | refine And.intro ?_ ?_ | refine Exists.intro ?_ ?_); first | omega | (simp <;> omega)) | (with_reducible refine spl (And.intro ?_ ?_) <;> intro _)) <;> ((try simp (implicitDefEqProofs := false) [hkl]); (try simp (implicitDefEqProofs := false) (disch := first | assumption | (try simp only [lens]); omega -splitDisjunctions) [hkl])))))
              all_goals (all_goals first | exact ih4 | (refine at2 ih4 ?_ ?_ <;> simp; done) | (exfalso; first | omega | (simp_all; done) | (simp_all; omega)))
        all_goals first | exact main4 _ 0 true (Nat.zero_add _) | (refine at2 main4 _ 0 true (Nat.zero_add _) ?_ ?_ <;> simp; done) | (exfalso; first | omega | (simp_all; done) | (simp_all; omega))
      | succ r ih =>
        intro i hi
        have ih := ih (i + 1) (by omega)
        have hi5 : i < 5 := by omega
        have hsn := fun (k : Nat) (hk : k < l.length) => by
          have := allT_snoc (l.take k) l[k] i
          rw [← take_snoc hk] at this
          exact this
        apply hQ
        clear hQ
        (((try simp (implicitDefEqProofs := false) [hi5]); (try simp (implicitDefEqProofs := false) (disch := first | assumption | (try simp only [lens]); omega -splitDisjunctions) [hi5])); all_goals try (repeat' ((first | ((with_reducible first | refine And.intro ?_ ?_ | refine Exists.intro ?_ ?_); first | omega | (simp <;> omega)) | (with_reducible refine spl (And.intro ?_ ?_) <;> intro _)) <;> ((try simp (implicitDefEqProofs := false) [hi5]); (try simp (implicitDefEqProofs := false) (disch := first | assumption | (try simp only [lens]); omega -splitDisjunctions) [hi5])))))
        refine W_of fun Q2 hQ2 => ?_
        have main2 : ∀ r k, k + r = l.length → Q2 [(0, .list (l.map tab)), (3, .bool c), (4, .ptr 0 0 0), (7, .int .i64 (i : Int)), (8, .bool (allT (l.take k) i)), (9, .int .i64 (k : Int))] [.rows 5 [A.map .bool]] := by
          intro r
          induction r with
          | zero =>
            intro k hk
            obtain rfl : k = l.length := by omega
            rw [List.take_length, ← hAg i hi5]
            have hiA : i < A.length := by omega
            have hg := gB_eq hiA
            generalize gB A i = b at *
            apply hQ2
            clear hQ2 hsn
            (((try simp (implicitDefEqProofs := false) [hi5, hA5, hg]); (try simp (implicitDefEqProofs := false) (disch := first | assumption | (try simp only [lens]); omega -splitDisjunctions) [hi5, hA5, hg])); all_goals try (repeat' ((first | ((with_reducible first | refine And.intro ?_ ?_ | refine Exists.intro ?_ ?_); first | omega | (simp <;> omega)) | (with_reducible refine spl (And.intro ?_ ?_) <;> intro _)) <;> ((try simp (implicitDefEqProofs := false) [hi5, hA5, hg]); (try simp (implicitDefEqProofs := false) (disch := first | assumption | (try simp only [lens]); omega -splitDisjunctions) [hi5, hA5, hg])))))
            all_goals (all_goals first | exact ih | (refine at2 ih ?_ ?_ <;> simp; done) | (exfalso; first | omega | (simp_all; done) | (simp_all; omega)))
          | succ r ih2 =>
            intro k hk
            have hkl : k < l.length := by omega
            have ih2 := ih2 (k + 1) (by omega)
            rw [hsn k hkl] at ih2
            obtain ⟨n, hn⟩ := hok l[k] (List.getElem_mem hkl)
            have hic := InClass_ref l[k] n hn i hi5
            clear hsn
            generalize allT (l.take k) i = b at *
            generalize hT : l[k] = T at *
            generalize clsAt T i = d at *
            apply hQ2
            clear hQ2 ih
            cases b with
            | false =>
              (((try simp (implicitDefEqProofs := false) [hkl, hi5]); (try simp (implicitDefEqProofs := false) (disch := first | assumption | (try simp only [lens]); omega -splitDisjunctions) [hkl, hi5])); all_goals try (repeat' ((first | ((with_reducible first | refine And.intro ?_ ?_ | refine Exists.intro ?_ ?_); first | omega | (simp <;> omega)) | (with_reducible refine spl (And.intro ?_ ?_) <;> intro _)) <;> ((try simp (implicitDefEqProofs := false) [hkl, hi5]); (try simp (implicitDefEqProofs := false) (disch := first | assumption | (try simp only [lens]); omega -splitDisjunctions) [hkl, hi5])))))
              all_goals (all_goals first | exact ih2 | (refine at2 ih2 ?_ ?_ <;> simp; done) | (exfalso; first | omega | (simp_all; done) | (simp_all; omega)))
            | true =>
              (((try simp (implicitDefEqProofs := false) [hkl, hi5, hT]); (try simp (implicitDefEqProofs := false) (disch := first | assumption | (try simp only [lens]); omega -splitDisjunctions) [hkl, hi5, hT])); all_goals try (repeat' ((first | ((with_reducible first | refine And.intro ?_ ?_ | refine Exists.intro ?_ ?_); first | omega | (simp <;> omega)) | (with_reducible refine spl (And.intro ?_ ?_) <;> intro _) | (refine CL.clo (hic) ?_) | (refine CM.clo (hic) ?_) | (refine CD.clo (hic) ?_)) <;> ((try simp (implicitDefEqProofs := false) [hkl, hi5, hT]); (try simp (implicitDefEqProofs := false) (disch := first | assumption | (try simp only [lens]); omega -splitDisjunctions) [hkl, hi5, hT])))))
              all_goals (all_goals first | exact ih2 | (refine at2 ih2 ?_ ?_ <;> simp; done) | (exfalso; first | omega | (simp_all; done) | (simp_all; omega)))
        all_goals first | exact main2 _ 0 (Nat.zero_add _) | (refine at2 main2 _ 0 (Nat.zero_add _) ?_ ?_ <;> simp; done) | (exfalso; first | omega | (simp_all; done) | (simp_all; omega))
    all_goals first | exact main 5 0 rfl | (refine at2 main 5 0 rfl ?_ ?_ <;> simp; done) | (exfalso; first | omega | (simp_all; done) | (simp_all; omega))
  · rw [if_pos (by simpa using hz)] at hcm
    generalize tabF l = w at *
    (((try simp (implicitDefEqProofs := false) [hz]); (try simp (implicitDefEqProofs := false) (disch := first | assumption | (try simp only [lens]); omega -splitDisjunctions) [hz])); all_goals try (repeat' ((first | ((with_reducible first | refine And.intro ?_ ?_ | refine Exists.intro ?_ ?_); first | omega | (simp <;> omega)) | (with_reducible refine spl (And.intro ?_ ?_) <;> intro _) | (refine CL.clo (hcm) ?_) | (refine CM.clo (hcm) ?_) | (refine CD.clo (hcm) ?_) | (refine CL.clo (htf) ?_) | (refine CM.clo (htf) ?_) | (refine CD.clo (htf) ?_) | (refine CL.clo (hbg) ?_) | (refine CM.clo (hbg) ?_) | (refine CD.clo (hbg) ?_)) <;> ((try simp (implicitDefEqProofs := false) [hz]); (try simp (implicitDefEqProofs := false) (disch := first | assumption | (try simp only [lens]); omega -splitDisjunctions) [hz])))))
end Go.Proofs.Ytbmpmmbcfabeeaa
namespace Go.Proofs.Ytbmpmmbcfabeeaa
open Go Go.Pv Go.ChangeShapes Go.WideShapes Go.ChangeAt Go.RowKit
set_option linter.unusedVariables false

theorem z_own : ownKnob Try.prog.godebug = none := by kernel_rfl

theorem z_call (rows : List (List PV)) (h : AllTy Try.prog [40] rows) :
    CallOK Try.prog 6 (argsOf Try.prog [40] rows) [] (.bool true) [] := by
  obtain ⟨r0, rs, rfl, h0, h⟩ := allTy_cons h
  obtain rfl := allTy_nil h
  obtain ⟨t0, rfl⟩ := tabs_of h0
  simp only [argsOf]
  rw [argOf_one ty40 rfl]
  exact truthPost_law t0

set_option maxRecDepth 100000 in
theorem z_lifted (os : Os) (started : os.Started) (H : Type) (enc : TypeId × Value → H) :
    ReturnsInHanded {} Try.checked os 6 .any (Rows.truthPostSpec.pre6 enc Try.prog Try.f6 Rows.truthPostRow.domain false) (Rows.truthPostSpec.post enc Try.prog Try.f6 false true false false) := by
  refine returnsInHanded_of_change_sized (C := Try.checked) (s := Rows.truthPostSpec) z_own started (by kernel_rfl) Try.func6
    (ChangeSpec.witness6 (enc := enc) (C := Try.checked) (s := Rows.truthPostSpec) false ⟨#[], #[.slice none 0 0], []⟩ 8 (by kernel_rfl) (by kernel_rfl) (by kernel_rfl) (by kernel_rfl)) ?_
  intro W base args ds gs before hval hW _ hz _
  exact law_contract (s := Rows.truthPostSpec) (tb := 4) [40, 48, 3, 46, 4] (by kernel_rfl) (by kernel_rfl) (by kernel_rfl) (by kernel_rfl) rfl (by kernel_rfl) (und_bool ty4 rfl)
    (fun ds h => by match ds, h with | [d1], _ => rfl)
    (fun rows h => by rw [Try.params6] at h ⊢; exact z_call rows h) W base args ds gs before hval hW hz

theorem truthPost_holds : Rows.TruthPostSaid :=
  OpenClaim.holds_of_wide 6 Try.f6 rfl rfl rfl rfl rfl rfl rfl ⟨rfl, rfl, rfl, rfl, rfl⟩ rfl rfl rfl rfl rfl (by kernel_rfl) Try.func6 (by kernel_rfl)
    (of_decide_eq_true (by kernel_rfl)) (by unfold Func.isWrapper; first | (rw [if_pos (by decide +kernel)]; kernel_rfl) | (rw [if_neg (by decide +kernel)]; exact ⟨rfl, rfl⟩))
    (fun os started H enc _ => z_lifted os started H enc)

end Go.Proofs.Ytbmpmmbcfabeeaa
