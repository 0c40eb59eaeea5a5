/-
  Values seen as data: several rows of an own slice written at once: clear, copy.
-/
import Derived.Test.YtliockncjdeloaaPvOpsE
namespace Go.Pv
open Go Go.RowKit
set_option linter.unusedVariables false
set_option linter.unusedSimpArgs false

section
variable {P : Program} {N : Nat} {o : Oper} {e : Env} {s : Store} {k : PV → Store → Prop}

def putRows (rows ys : List (List PV)) (off : Nat) : List (List PV) := rows.take off ++ ys ++ rows.drop (off + ys.length)
theorem putRows_length {rows ys : List (List PV)} {off : Nat} (h : off + ys.length ≤ rows.length) : (putRows rows ys off).length = rows.length := by simp [putRows]; omega
theorem putRows_get {rows ys : List (List PV)} {off j : Nat} (h : off + ys.length ≤ rows.length) : (putRows rows ys off)[j]? = if off ≤ j ∧ j < off + ys.length then ys[j - off]? else rows[j]? := by
  unfold putRows
  rw [List.append_assoc]
  rcases Nat.lt_or_ge j off with h1 | h1
  · rw [if_neg (by omega), List.getElem?_append_left (by simp; omega), List.getElem?_take, if_pos h1]
  · rw [List.getElem?_append_right (by simp; omega)]
    have ht : (rows.take off).length = off := by simp; omega
    rw [ht]
    by_cases h2 : j < off + ys.length
    · rw [if_pos ⟨h1, h2⟩, List.getElem?_append_left (by omega)]
    · rw [if_neg (by omega), List.getElem?_append_right (by omega), List.getElem?_drop]
      congr 1; omega

/-- rows from 'off' on are written over -/
theorem SR.putRows {C : Ctx} {pub : PHeap} {σ : Sig} {w : World} (hs : SR C pub σ s w) {i z off : Nat} {l : Loc} {rows ys : List (List PV)} {ca : Array Value} {ty : TypeId} {vs : List Value}
    (hi : s[i]? = some (.rows z rows)) (hσ : σ i = some l) (hn : 0 < l.n) (hb : w.heap[l.b]? = some (.cells ca ty (0, 0))) (hsz : l.o + l.n * l.esz ≤ ca.size) (hfit : off + ys.length ≤ rows.length)
    (hR : RowsIn (Rel pub σ) rows ca l.o l.esz) (hlen : vs.length = ys.length * l.esz) (hY : RowsIn (Rel pub σ) ys vs.toArray 0 l.esz) :
    SR C pub σ (s.set i (.rows z (Pv.putRows rows ys off))) { w with heap := w.heap.setIfInBounds l.b (.cells (spliceA ca (l.o + off * l.esz) vs) ty (0, 0)) } := by
  obtain ⟨l', h1, hz, hle, _⟩ := hs.obj i _ hi
  rw [hσ] at h1; cases h1
  have hlt : off * l.esz + ys.length * l.esz ≤ l.n * l.esz := by rw [← Nat.add_mul]; exact Nat.mul_le_mul_right _ (by omega)
  refine hs.write hi (by simp) hσ hn (.rows z (Pv.putRows rows ys off)) (.cells (spliceA ca (l.o + off * l.esz) vs) ty (0, 0)) (by simp) ?_
  refine ⟨l, hσ, hz, by rw [putRows_length hfit]; exact hle, fun _ => ⟨(ObjOK.alive hs.obj ⟨_, hi, by simp, hσ, hn⟩).1, spliceA ca (l.o + off * l.esz) vs, ty, ?_, ?_, ?_, ?_⟩⟩
  · have hlb := (ObjOK.alive hs.obj ⟨_, hi, by simp, hσ, hn⟩).2
    simp [Array.getElem?_setIfInBounds, hlb]
  · rw [spliceA_size]; exact hsz
  · intro r row hr
    rw [putRows_get hfit] at hr
    split at hr
    · exact hY.wide _ row hr
    · exact hR.wide r row hr
  · intro r row j v c hr hj hc
    have hrl : r < rows.length := by
      have := lt_of_getElem? hr
      rw [putRows_length hfit] at this; exact this
    rw [spliceA_get _ _ _ _ (by omega)] at hc
    rw [putRows_get hfit] at hr
    by_cases hin : off ≤ r ∧ r < off + ys.length
    · rw [if_pos hin] at hr
      have hwd := hY.wide _ row hr
      have hjl := lt_of_getElem? hj
      obtain ⟨q, hq⟩ : ∃ q, r = off + q := ⟨r - off, by omega⟩
      subst hq
      have hq2 : off + q - off = q := by omega
      rw [hq2] at hr
      have hql : q < ys.length := by omega
      have h3 : (q + 1) * l.esz ≤ ys.length * l.esz := Nat.mul_le_mul_right _ hql
      rw [Nat.add_mul] at h3
      rw [Nat.add_mul] at hc
      rw [if_pos (by omega)] at hc
      refine hY.rel q row j v c hr hj ?_
      rw [← hc]
      simp only [List.getElem?_toArray]
      congr 1; omega
    · rw [if_neg hin] at hr
      have hwd := hR.wide r row hr
      have hjl := lt_of_getElem? hj
      rw [if_neg ?_] at hc
      · exact hR.rel r row j v c hr hj hc
      · rcases Nat.lt_or_ge r off with h | h
        · have : (r + 1) * l.esz ≤ off * l.esz := Nat.mul_le_mul_right _ h
          rw [Nat.add_mul] at this; omega
        · have : (off + ys.length) * l.esz ≤ r * l.esz := Nat.mul_le_mul_right _ (by omega)
          rw [Nat.add_mul] at this; omega

def WClear (ti : TI) (s : Store) (x : PV) (k : Store → Prop) : Prop :=
  ∃ e esz by' ag z, ti.kind = .slice e esz by' ag (some z) ∧ z.length = esz ∧ z.all isCell = true ∧ match x with
  | .nilsl => k s
  | .sl i off len => ∃ rows, s[i]? = some (.rows esz rows) ∧ off + len ≤ rows.length ∧ k (s.set i (.rows esz (putRows rows (List.replicate len z) off)))
  | _ => False

theorem ok_clear {x : Operand} {T : TypeId} {ti : TI} (ho : o.op = .call { callee := .builtin .clear, args := #[x], argTypes := #[T] }) (ht : tinfo P T = some ti) (h : WClear ti s (evO e x) fun s' => k (.tuple []) s') : OpOK P N o e s k := by
  intro C pub σ a w next Q hs he hnext
  obtain ⟨ix, d, h1, h2, rfl⟩ := tinfo_some ht
  obtain ⟨el, esz, by', ag, z, hkind, hzl, hzc, h⟩ := h
  obtain ⟨rfl, ei, hei, rfl, rfl, _, hzz⟩ := tkOf_slice hkind
  have hr := evO_rel he x
  have htup : ∀ (pub : PHeap) (σ : Sig), Rel pub σ (.tuple []) (.tuple #[]) := fun _ _ => .tuple rfl fun j v c h => by simp at h
  generalize hv : a.eval x = cv at hr
  split at h
  · rename_i heq
    rw [heq] at hr
    cases hr
    refine wp_value (w' := w) ?_ (hnext _ _ _ pub σ _ h hs he (htup _ _))
    simp [execOp, ho, hv, resolve, invoke, builtin, Builtin.clear_, run_underlying' h2]
  · rename_i i off len heq
    rw [heq] at hr
    obtain ⟨rows, hi, hfit, hk⟩ := h
    cases hr with
    | sl hσ hlen hcap ha =>
      rename_i l ad cap
      by_cases h0 : len = 0
      · subst h0
        have hsame : putRows rows (List.replicate 0 z) off = rows := by simp [putRows]
        rw [hsame] at hk
        have hset : s.set i (.rows ei.size rows) = s := by
          apply List.ext_getElem?
          intro j
          rw [List.getElem?_set]
          split
          · subst_vars; split
            · exact hi.symm
            · rename_i hh; rw [List.getElem?_eq_none (by omega)]
          · rfl
        rw [hset] at hk
        refine wp_value (w' := w) ?_ (hnext _ _ _ pub σ _ hk hs he (htup _ _))
        cases ad <;> simp [execOp, ho, hv, resolve, invoke, builtin, Builtin.clear_, run_underlying' h2]
      · obtain ⟨rfl, hn⟩ := ha (by omega)
        obtain ⟨hn', hle, ca, ty, hb, hsz, hR⟩ := hs.rows hi hσ (by rintro rfl; simp at hfit; omega)
        obtain ⟨l', hl1, hl2, _⟩ := hs.obj i _ hi
        rw [hσ] at hl1; cases hl1
        obtain ⟨zv, hzv, hzr⟩ := zero_relA (pub := pub) (σ := σ) hei hzz
        have hzs : zv.cells.size = l.esz := by rw [hzr.1, hzl, hl2]
        obtain ⟨vs, hvs⟩ : ∃ vs, vs = (Builtin.zeroCells zv.cells len).toList := ⟨_, rfl⟩
        have hvl : vs.length = len * l.esz := by rw [hvs]; simp [Builtin.zeroCells, hzs]
        have hvg : ∀ j, j < len * l.esz → vs[j]? = zv.cells[j % l.esz]? := by
          intro j hj
          rw [hvs]
          have hz0 : 0 < l.esz := by rcases Nat.eq_zero_or_pos l.esz with h | h; rw [h] at hj; simp at hj; exact h
          have hmod : j % l.esz < zv.cells.size := by rw [hzs]; exact Nat.mod_lt _ hz0
          simp only [Builtin.zeroCells, hzs, Array.getElem?_toList]
          rw [Array.getElem?_map, Array.getElem?_range]
          rw [if_pos hj]
          simp [getElem!_pos zv.cells (j % l.esz) hmod, Array.getElem?_eq_getElem hmod]
        have hY : RowsIn (Rel pub σ) (List.replicate len z) vs.toArray 0 l.esz := by
          refine ⟨fun r row hr => ?_, fun r row j v c hr hj hc => ?_⟩
          · obtain ⟨_, rfl⟩ := List.mem_replicate.1 (List.mem_of_getElem? hr); rw [hzl, hl2]
          · have hrl := lt_of_getElem? hr
            rw [List.length_replicate] at hrl
            obtain ⟨_, rfl⟩ := List.mem_replicate.1 (List.mem_of_getElem? hr)
            have hjl := lt_of_getElem? hj
            have hlt : r * l.esz + j < len * l.esz := by
              have : (r + 1) * l.esz ≤ len * l.esz := Nat.mul_le_mul_right _ hrl
              rw [Nat.add_mul] at this; omega
            rw [List.getElem?_toArray, Nat.zero_add, hvg _ hlt, mod_place (by omega)] at hc
            exact hzr.2 j v c hj hc
        have hone : ∀ v ∈ vs, v.oneCell' = true := by
          intro v hvm
          obtain ⟨j, hj⟩ := List.mem_iff_getElem?.1 hvm
          have hjl := lt_of_getElem? hj
          rw [hvl] at hjl
          rw [hvg j hjl] at hj
          have hz0 : 0 < l.esz := by rcases Nat.eq_zero_or_pos l.esz with h | h; rw [h] at hjl; simp at hjl; exact h
          have hm : j % l.esz < z.length := by rw [hzl, ← hl2]; exact Nat.mod_lt _ hz0
          exact isCell_rel (List.all_eq_true.1 hzc _ (List.getElem_mem hm)) (hzr.2 _ _ _ (List.getElem?_eq_getElem hm) hj)
        have hlt2 : off * l.esz + len * l.esz ≤ l.n * l.esz := by rw [← Nat.add_mul]; exact Nat.mul_le_mul_right _ (by omega)
        have hrun := run_storeCells (P := P) vs (w := w) (b := l.b) (o := l.o + off * l.esz) (cs := ca) (ty := ty) 0 hb (by omega) hone
        refine wp_value (w' := _) ?_ (hnext _ _ _ pub σ _ hk (hs.putRows (vs := vs) hi hσ hn' hb hsz (by rw [List.length_replicate]; exact hfit) hR (by rw [List.length_replicate]; exact hvl) hY) he (htup _ _))
        have hlen0 : len ≠ 0 := h0
        obtain ⟨len', rfl⟩ : ∃ q, len = q + 1 := ⟨len - 1, by omega⟩
        simp [execOp, ho, hv, resolve, invoke, builtin, Builtin.clear_, run_underlying' h2, zeroValue, run_typeInfo' hei, hzv, ← hvs, hrun]
  · exact h.elim
end
end Go.Pv
