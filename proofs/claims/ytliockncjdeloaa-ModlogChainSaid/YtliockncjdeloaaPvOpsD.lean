/-
  Values seen as data, the seventh text: literals, append, ranging over a string.
-/
import Derived.Test.YtliockncjdeloaaPvOpsC
namespace Go.Pv
open Go Go.RowKit
set_option linter.unusedVariables false
set_option linter.unusedSimpArgs false

section
variable {P : Program} {N : Nat} {o : Oper} {e : Env} {s : Store} {k : PV → Store → Prop}

/-- the parts of a literal, laid one by one -/
def fillP (place : Nat → Option (Nat × Nat)) (cells : List PV) : List (Nat × PV) → Option (List PV)
  | [] => some cells
  | (i, v) :: rest => match place i, cellsP v with
    | some (off, size), some cs => if cs.length = size ∧ off + size ≤ cells.length then fillP place (spliceP cells off cs) rest else none
    | _, _ => none

def CellsRel (pub : PHeap) (σ : Sig) (cells : List PV) (arr : Array Value) : Prop := RelA pub σ cells arr

theorem fold_splice (vs : List Value) : ∀ (cs : Array Value) (off k : Nat), (vs.zipIdx k).foldl (fun cs (x : Value × Nat) => cs.setIfInBounds (off + x.2) x.1) cs = spliceA cs (off + k) vs := by
  induction vs with
  | nil => intros; rfl
  | cons v vs ih => intro cs off k; simp only [List.zipIdx_cons, List.foldl_cons, spliceA]; rw [ih]; simp [Nat.add_assoc]

theorem fill_rel {pub : PHeap} {σ : Sig} {place : Nat → Option (Nat × Nat)} (parts : List (Nat × PV)) : ∀ (cells : List PV) (arr : Array Value) (vs : List (Nat × Value)) (out : List PV), RelA pub σ cells arr → fillP place cells parts = some out →
    vs.length = parts.length → (∀ (j : Nat) (p : Nat × PV) (v : Nat × Value), parts[j]? = some p → vs[j]? = some v → v.1 = p.1 ∧ Rel pub σ p.2 v.2) →
    ∃ arr', Instr.fill place arr vs = some arr' ∧ RelA pub σ out arr' := by
  induction parts with
  | nil =>
    intro cells arr vs out hr hf hl _
    simp [fillP] at hf; subst hf
    have : vs = [] := List.length_eq_zero_iff.1 (by simpa using hl)
    subst this
    exact ⟨arr, rfl, hr⟩
  | cons p parts ih =>
    intro cells arr vs out hr hf hl hrel
    obtain ⟨i, v⟩ := p
    cases vs with
    | nil => simp at hl
    | cons q vs =>
      obtain ⟨i', cv⟩ := q
      obtain ⟨rfl, hv⟩ := hrel 0 (i, v) (i', cv) rfl rfl
      unfold fillP at hf
      split at hf
      · rename_i off size cs hp hc
        split at hf
        · rename_i hb
          have hcell := cellsP_rel hc hv
          simp only at hp
          have hz : cv.cells.zipIdx.foldl (fun cs (x : Value × Nat) => cs.setIfInBounds (off + x.2) x.1) arr = spliceA arr off cv.cells.toList := by
            rw [← Array.foldl_toList, Array.toList_zipIdx]
            exact fold_splice _ _ _ _
          obtain ⟨arr', h1, h2⟩ := ih (spliceP cells off cs) (spliceA arr off cv.cells.toList) vs out (by
            refine ⟨by rw [spliceA_size, splice_length (by omega)]; exact hr.1, fun j x y hx hy => ?_⟩
            rw [splice_get (by omega)] at hx
            have hlc : cv.cells.toList.length = cs.length := by simp [hcell.1]
            rw [spliceA_get _ _ _ _ (by rw [hlc, hr.1]; omega), hlc] at hy
            split at hx
            · rename_i hin
              rw [if_pos hin, Array.getElem?_toList] at hy
              exact hcell.2 _ _ _ hx hy
            · rename_i hin
              rw [if_neg hin] at hy
              exact hr.2 _ _ _ hx hy) hf (by simpa using hl) (fun j a b ha hb => hrel (j + 1) a b (by simpa using ha) (by simpa using hb))
          refine ⟨arr', ?_, h2⟩
          unfold Instr.fill
          simp only [hp]
          rw [if_neg (by simp [hcell.1, hb.1, hr.1]; omega)]
          rw [← hz] at h1
          exact h1
        · cases hf
      · cases hf

def zerosOk (z : Option (List PV)) : List PV := z.getD []

def WBuild (ti : TI) (parts : List (Nat × PV)) (k : PV → Prop) : Prop :=
  ∃ z out, ti.zero = some z ∧ (match ti.kind with
    | .struct fs => fillP (fun i => (fs[i]?).map fun f => (f.1, f.2.2.1)) z parts
    | .array _ _ esz _ => fillP (fun i => some (i * esz, esz)) z parts
    | _ => none) = some out ∧ k (.agg out)

theorem zero_relA {pub : PHeap} {σ : Sig} {T : TypeId} {i : TypeInfo} (h1 : P.info? T = some i) {z : List PV} (hz : zeroOf P T = some z) : ∃ zv, i.zero = some zv ∧ RelA pub σ z zv.cells := by
  simp only [zeroOf, h1, Option.bind_some, Option.map_eq_some_iff] at hz
  obtain ⟨zv, h3, rfl⟩ := hz
  refine ⟨zv, h3, by simp, fun j v c hv hc => ?_⟩
  simp only [List.getElem?_map, Array.getElem?_toList, hc, Option.map_some, Option.some.injEq] at hv
  subst hv; exact ofConst_rel _ _ _ _

theorem parts_rel {pub : PHeap} {σ : Sig} {a : Act} (he : ER pub σ N e a) (parts : Array (Nat × Operand)) : (parts.map fun (p : Nat × Operand) => (p.1, a.eval p.2)).toList.length = (parts.toList.map fun p => (p.1, evO e p.2)).length ∧
    ∀ (j : Nat) (p : Nat × PV) (v : Nat × Value), (parts.toList.map fun p => (p.1, evO e p.2))[j]? = some p → (parts.map fun (p : Nat × Operand) => (p.1, a.eval p.2)).toList[j]? = some v → v.1 = p.1 ∧ Rel pub σ p.2 v.2 := by
  refine ⟨by simp, fun j p v hp hv => ?_⟩
  simp only [List.getElem?_map, Array.toList_map, Option.map_eq_some_iff] at hp hv
  obtain ⟨u, hu, rfl⟩ := hp
  obtain ⟨u', hu', rfl⟩ := hv
  rw [hu] at hu'; cases hu'
  exact ⟨rfl, evO_rel he _⟩

theorem run_mapM_sizes {w : World} (fields : Array Field) (h : ∀ (j : Nat) (f : Field), fields[j]? = some f → ∃ i d, P.info? f.type = some i ∧ i.size ≠ 0 ∧ P.underlying f.type = some d) :
    (fields.mapM fun f => (do pure (f.offset, ← sizeOf f.type) : Sem (Nat × Nat))).run P w = .ok (fields.map fun f => (f.offset, ((P.info? f.type).map (·.size)).getD 0)) w := by
  have key : ∀ (l : List Field), (∀ f ∈ l, ∃ i, P.info? f.type = some i) → (l.mapM fun f => (do pure (f.offset, ← sizeOf f.type) : Sem (Nat × Nat))).run P w = .ok (l.map fun f => (f.offset, ((P.info? f.type).map (·.size)).getD 0)) w := by
    intro l
    induction l with
    | nil => intro _; rfl
    | cons f l ih =>
      intro hl
      obtain ⟨i, hi⟩ := hl f (by simp)
      have := ih fun g hg => hl g (by simp [hg])
      simp only [List.mapM_cons, Sem.run_bind, run_sizeOf' hi, Result.andThen_ok, Sem.run_pure, this, List.map_cons, hi, Option.map_some, Option.getD_some]
  rw [Array.mapM_eq_mapM_toList, Sem.run_map, key _ (fun f hf => by
    obtain ⟨j, hj⟩ := List.mem_iff_getElem?.1 hf
    rw [Array.getElem?_toList] at hj
    obtain ⟨i, _, hi, _⟩ := h j f hj
    exact ⟨i, hi⟩)]
  simp only [Result.andThen_ok]
  congr 1
  apply Array.ext'
  simp

theorem ok_build {T : TypeId} {parts : Array (Nat × Operand)} {ti : TI} (ho : o.op = .build T parts) (ht : tinfo P T = some ti) (h : WBuild ti (parts.toList.map fun p => (p.1, evO e p.2)) fun v => k v s) : ReadOK P N o e s k :=
  fun C pub σ a w hs he => by
    obtain ⟨i, d, h1, h2, rfl⟩ := tinfo_some ht
    obtain ⟨z, out, hz, hf, hk⟩ := h
    obtain ⟨zv, hzv, hzr⟩ := zero_relA (pub := pub) (σ := σ) h1 hz
    have hp := parts_rel he parts
    simp only at hf
    split at hf
    · rename_i fs hkd
      obtain ⟨fields, rfl, rfl, hall⟩ := tkOf_struct hkd
      obtain ⟨arr', h3, h4⟩ := fill_rel _ _ _ _ _ hzr hf hp.1 hp.2
      refine ⟨_, .agg arr', hk, .agg h4.1 h4.2, ?_⟩
      have hpl : (fun (i : Nat) => (List.map (fun (f : Field) => (f.offset, f.type, ((P.info? f.type).map (·.size)).getD 0, aggOf P f.type)) fields.toList)[i]?.map fun (f : Nat × Nat × Nat × Bool) => (f.1, f.2.2.1)) = fun (i : Nat) => (fields.map fun f => (f.offset, ((P.info? f.type).map (·.size)).getD 0))[i]? := by
        funext i; simp [List.getElem?_map, Array.getElem?_map, Function.comp_def]
      rw [hpl] at h3
      have hm := run_mapM_sizes (P := P) (w := w) fields hall
      simp only [bind_pure_comp] at hm
      simp only [Array.toList_map, Array.getElem?_map] at h3
      simp [execOp, ho, Instr.build, zeroValue, run_typeInfo' h1, hzv, run_underlying' h2, hm, h3]
    · rename_i n el esz ag hkd
      obtain ⟨rfl, ei, hei, rfl, _⟩ := tkOf_array hkd
      obtain ⟨arr', h3, h4⟩ := fill_rel _ _ _ _ _ hzr hf hp.1 hp.2
      simp only [Array.toList_map] at h3
      exact ⟨_, .agg arr', hk, .agg h4.1 h4.2, by simp [execOp, ho, Instr.build, zeroValue, run_typeInfo' h1, hzv, run_underlying' h2, run_sizeOf' hei, h3]⟩
    · cases hf

/-- a slice literal: places filled in their order, each once or not at all -/
def fillRows (esz : Nat) (rows : List (List PV)) : List (Nat × PV) → Option (List (List PV))
  | [] => some rows
  | (i, v) :: rest => match cellsP v with
    | some cs => if cs.length = esz ∧ i < rows.length then fillRows esz (rows.set i cs) rest else none
    | none => none

theorem RowsIn.set {pub : PHeap} {σ : Sig} {rows : List (List PV)} {arr : Array Value} {esz i : Nat} {cs : List PV} {c : Value} (h : RowsIn (Rel pub σ) rows arr 0 esz) (hi : i < rows.length) (hl : cs.length = esz) (hsz : rows.length * esz ≤ arr.size)
    (hc : c.cells.size = cs.length ∧ ∀ (j : Nat) (x : PV) (y : Value), cs[j]? = some x → c.cells[j]? = some y → Rel pub σ x y) : RowsIn (Rel pub σ) (rows.set i cs) (spliceA arr (i * esz) c.cells.toList) 0 esz := by
  have hf := row_fits (esz := esz) hi (Nat.le_refl _)
  have hlc : c.cells.toList.length = esz := by simp [hc.1, hl]
  refine ⟨fun r row hr => ?_, fun r row j v y hr hj hy => ?_⟩
  · by_cases e : r = i
    · subst e; rw [List.getElem?_set_self hi] at hr; cases hr; exact hl
    · rw [List.getElem?_set_ne (by omega)] at hr; exact h.wide r row hr
  · rw [Nat.zero_add, spliceA_get _ _ _ _ (by rw [hlc]; omega), hlc] at hy
    by_cases e : r = i
    · subst e
      rw [List.getElem?_set_self hi] at hr; cases hr
      have hjl := lt_of_getElem? hj
      rw [if_pos (by omega), Array.getElem?_toList] at hy
      refine hc.2 j v y hj ?_
      rw [← hy]; congr 1; omega
    · rw [List.getElem?_set_ne (by omega)] at hr
      have hjl := lt_of_getElem? hj
      rw [h.wide r row hr] at hjl
      have hrl := lt_of_getElem? hr
      rw [if_neg ?_] at hy
      · exact h.rel r row j v y hr hj (by rw [Nat.zero_add]; exact hy)
      · rcases Nat.lt_or_gt_of_ne e with h' | h'
        · have : (r + 1) * esz ≤ i * esz := Nat.mul_le_mul_right _ (by omega)
          rw [Nat.add_mul] at this; omega
        · have : (i + 1) * esz ≤ r * esz := Nat.mul_le_mul_right _ (by omega)
          rw [Nat.add_mul] at this; omega

theorem fillRows_rel {pub : PHeap} {σ : Sig} {esz : Nat} (parts : List (Nat × PV)) : ∀ (rows : List (List PV)) (arr : Array Value) (vs : List (Nat × Value)) (out : List (List PV)), RowsIn (Rel pub σ) rows arr 0 esz → arr.size = rows.length * esz → fillRows esz rows parts = some out →
    vs.length = parts.length → (∀ (j : Nat) (p : Nat × PV) (v : Nat × Value), parts[j]? = some p → vs[j]? = some v → v.1 = p.1 ∧ Rel pub σ p.2 v.2) →
    ∃ arr', Instr.fill (fun i => some (i * esz, esz)) arr vs = some arr' ∧ RowsIn (Rel pub σ) out arr' 0 esz ∧ arr'.size = out.length * esz ∧ out.length = rows.length := by
  induction parts with
  | nil =>
    intro rows arr vs out hr hsz hf hl _
    simp [fillRows] at hf; subst hf
    have : vs = [] := List.length_eq_zero_iff.1 (by simpa using hl)
    subst this
    exact ⟨arr, rfl, hr, hsz, rfl⟩
  | cons p parts ih =>
    intro rows arr vs out hr hsz hf hl hrel
    obtain ⟨i, v⟩ := p
    cases vs with
    | nil => simp at hl
    | cons q vs =>
      obtain ⟨i', cv⟩ := q
      obtain ⟨rfl, hv⟩ := hrel 0 (i, v) (i', cv) rfl rfl
      unfold fillRows at hf
      split at hf
      · rename_i cs hc
        split at hf
        · rename_i hb
          have hcell := cellsP_rel hc hv
          simp only at hb hcell hf
          have hfit := row_fits (esz := esz) hb.2 (Nat.le_refl _)
          have hz : cv.cells.zipIdx.foldl (fun cs (x : Value × Nat) => cs.setIfInBounds (i' * esz + x.2) x.1) arr = spliceA arr (i' * esz) cv.cells.toList := by
            rw [← Array.foldl_toList, Array.toList_zipIdx]
            exact fold_splice _ _ _ _
          obtain ⟨arr', h1, h2, h3, h4⟩ := ih _ (spliceA arr (i' * esz) cv.cells.toList) vs out (hr.set hb.2 hb.1 (by omega) hcell) (by rw [spliceA_size, List.length_set]; exact hsz) hf (by simpa using hl)
            (fun j a b ha hb => hrel (j + 1) a b (by simpa using ha) (by simpa using hb))
          refine ⟨arr', ?_, h2, h3, by simpa using h4⟩
          unfold Instr.fill
          simp only
          rw [if_neg (by simp [hcell.1, hb.1, hsz]; omega)]
          rw [← hz] at h1
          exact h1
        · cases hf
      · cases hf

def WBuildSlice (ti : TI) (s : Store) (len : Nat) (parts : List (Nat × PV)) (k : PV → Store → Prop) : Prop :=
  ∃ e esz by' ag z rows, ti.kind = .slice e esz by' ag (some z) ∧ z.length = esz ∧ len * esz ≤ 16777216 ∧ esz ≠ 0 ∧ fillRows esz (List.replicate len z) parts = some rows ∧
    k (.sl s.length 0 len) (s ++ [.rows esz rows])

theorem ok_buildSlice {T : TypeId} {len : Nat} {parts : Array (Nat × Operand)} {ti : TI} (ho : o.op = .buildSlice T len parts) (ht : tinfo P T = some ti) (h : WBuildSlice ti s len (parts.toList.map fun p => (p.1, evO e p.2)) k) : OpOK P N o e s k := by
  intro C pub σ a w next Q hs he hnext
  obtain ⟨i, d, h1, h2, rfl⟩ := tinfo_some ht
  obtain ⟨el, esz, by', ag, z, rows, hk, hzl, hmax, hez, hf, hkk⟩ := h
  obtain ⟨rfl, ei, hei, rfl, rfl, _, hz⟩ := tkOf_slice hk
  obtain ⟨zv, hzv, hzr⟩ := zero_relA (pub := pub) (σ := σ) hei hz
  have hzs : zv.cells.size = ei.size := by rw [← hzl, hzr.1]
  have hp := parts_rel he parts
  have hzero := zero_rows (pub := pub) (σ := σ) hei hzv (m := len) (n := len) (Nat.le_refl _) hz
  rw [hzs] at hzero
  have hle := hs.toBase.le_add ⟨w.heap.size, 0, ei.size, len⟩
  obtain ⟨arr', h3, h4, h5, h6⟩ := fillRows_rel _ _ _ _ _ hzero (by simp) hf hp.1 hp.2
  have hlen : rows.length = len := by simpa using h6
  simp only [Array.toList_map] at h3
  have hrun : (execOp a.eval o).run P w = .ok (.value (.slice (some ⟨w.heap.size, 0, none⟩) len len)) { w with heap := w.heap.push (.cells arr' el) } := by
    have hm' : ¬ (len * ei.size > 16777216) := by omega
    have er : ∀ f : Nat → Value, (Array.range 0).map f = #[] := fun f => Array.eq_empty_of_size_eq_zero (by simp)
    by_cases hz0 : len = 0
    · subst hz0
      simp only [Nat.zero_mul, er] at h3
      simp [execOp, ho, Instr.buildSlice, run_underlying' h2, run_sizeOf' hei, er, h3, newRow]
    · have hz1 : len * ei.size ≠ 0 := Nat.mul_ne_zero hz0 hez
      simp [execOp, ho, Instr.buildSlice, run_underlying' h2, run_sizeOf' hei, hm', hz1, zeroValue, run_typeInfo' hei, hzv, hzs, h3, newRow]
  exact wp_value hrun (hnext _ _ _ pub _ _ hkk (new_rows hs arr' el ei.size len rows (by omega) (by rw [h5, hlen]; exact Nat.le_refl _) h4) (he.mono PHeap.le.rfl' hle) (sl_new (Nat.le_refl _) (Nat.le_refl _) (by
    have h7 : 0 < ei.size := by omega
    have h8 : len * 1 ≤ len * ei.size := Nat.mul_le_mul_left _ h7
    simp [maxLen]; omega)))

end
end Go.Pv
