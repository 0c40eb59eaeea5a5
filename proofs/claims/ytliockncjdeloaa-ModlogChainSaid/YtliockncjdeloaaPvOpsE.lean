/-
  Values seen as data, the eighth text: append, and ranging over a string.
-/
import Derived.Test.YtliockncjdeloaaPvOpsD
namespace Go.Pv
open Go Go.RowKit
set_option linter.unusedVariables false
set_option linter.unusedSimpArgs false

section
variable {P : Program} {N : Nat} {o : Oper} {e : Env} {s : Store} {k : PV → Store → Prop}

def WSrc (s : Store) (esz : Nat) (y : PV) (ys : List (List PV)) : Prop :=
  match y with
  | .list xs => ys = xs
  | .nilsl => ys = []
  | .sl j off len => ∃ rs, s[j]? = some (.rows esz rs) ∧ off + len ≤ rs.length ∧ ys = (rs.drop off).take len
  | _ => False
def isDst : PV → Bool
  | .nilsl | .sl _ _ _ => true
  | _ => false
def killP (s : Store) : PV → Store
  | .sl i _ _ => s.set i .dead
  | _ => s
def WAppend (ti : TI) (s : Store) (x y : PV) (k : PV → Store → Prop) : Prop :=
  ∃ e esz by' ag z xs ys, ti.kind = .slice e esz by' ag (some z) ∧ z.length = esz ∧ esz ≠ 0 ∧ by' ≠ 0 ∧ WSrc s esz x xs ∧ isDst x = true ∧ WSrc s esz y ys ∧ (∀ row ∈ ys, row.length = esz ∧ row.all isCell = true) ∧
    (xs.length + ys.length) * by' ≤ 140737488355328 ∧ k (.sl s.length 0 (xs.length + ys.length)) (killP s x ++ [.rows esz (xs ++ ys)])

/-- an object of no places: it has no memory -/
theorem SR.void {C : Ctx} {p : PHeap} {σ : Sig} {s : Store} {w : World} (h : SR C p σ s w) (b o esz : Nat) : SR C p (σ.add s.length ⟨b, o, esz, 0⟩) (s ++ [.rows esz []]) w := by
  have hle := h.toBase.le_add ⟨b, o, esz, 0⟩
  have halive : ∀ j lj, Alive (s ++ [.rows esz []]) (σ.add s.length ⟨b, o, esz, 0⟩) j lj → Alive s σ j lj := by
    rintro j lj ⟨oj, h1, h2, h3, h4⟩
    rcases Nat.lt_trichotomy j s.length with hj | hj | hj
    · rw [List.getElem?_append_left hj] at h1
      exact ⟨oj, h1, h2, by simpa [Sig.add, Nat.ne_of_lt hj] using h3, h4⟩
    · subst hj; rw [Sig.add_same] at h3; cases h3; simp at h4
    · rw [List.getElem?_eq_none (by simp; omega)] at h1; cases h1
  exact {
    pubIn := h.pubIn
    obj := fun j oj hj => by
      rcases Nat.lt_trichotomy j s.length with hj' | rfl | hgt
      · rw [List.getElem?_append_left hj'] at hj
        exact (h.obj j oj hj).mono PHeap.le.rfl' hle fun _ _ _ _ => ⟨rfl, rfl⟩
      · simp at hj; subst hj
        exact ⟨_, Sig.add_same _ _ _, rfl, by simp, fun hn => by simp at hn⟩
      · rw [List.getElem?_eq_none (by simp; omega)] at hj; cases hj
    inj := fun a b la lb ha hb' e => h.inj a b la lb (halive a la ha) (halive b lb hb') e
    sig := fun j hj => by
      have : j ≠ s.length := by simp at hj; omega
      simp only [Sig.add, this, if_false]
      exact h.sig j (by simp at hj; omega)
    os := h.os
    tape := h.tape
    output := h.output
    size := h.size
    frame := h.frame
    own := fun j lj hj => h.own j lj (halive j lj hj)
    ple := h.ple
    sle := h.sle.trans hle }

/-- what a source of cells gives -/
theorem src_run {C : Ctx} {pub : PHeap} {σ : Sig} {w : World} (hs : SR C pub σ s w) {esz : Nat} {y : PV} {ys : List (List PV)} {cy : Value} (h : WSrc s esz y ys) (hr : Rel pub σ y cy) (hw : ∀ row ∈ ys, row.length = esz) :
    (Builtin.lenOf cy).run P w = .ok ys.length w ∧ ∃ arr, (Builtin.firstCells esz ys.length cy).run P w = .ok arr w ∧ arr.size = ys.length * esz ∧ RowsIn (Rel pub σ) ys arr 0 esz := by
  have hwide : ∀ (r : Nat) (row : List PV), ys[r]? = some row → row.length = esz := fun r row hr => hw row (List.mem_of_getElem? hr)
  unfold WSrc at h
  split at h
  · subst h
    cases hr with
    | list0 hc =>
      rename_i a cap
      refine ⟨by simp [Builtin.lenOf], #[], ?_, by simp, ⟨hwide, fun r row j v c h1 => by simp at h1⟩⟩
      cases a <;> simp [Builtin.firstCells, loadCells, loadCellsFrom]
    | list hb hlen hcap hw' hsz hrel =>
      rename_i b o' cs ty fr esz' cap
      by_cases h0 : ys.length = 0
      · have : ys = [] := List.length_eq_zero_iff.1 h0
        subst this
        exact ⟨by simp [Builtin.lenOf], #[], by simp [Builtin.firstCells, loadCells, loadCellsFrom], by simp, ⟨hwide, fun r row j v c h1 => by simp at h1⟩⟩
      · obtain rfl : esz' = esz := by
          have h5 : ys[0]? = some ys[0] := List.getElem?_eq_getElem (by omega)
          have h6 := hw' 0 _ h5
          have h7 := hwide 0 _ h5
          omega
        refine ⟨by simp [Builtin.lenOf], cs.extract o' (o' + ys.length * esz'), ?_, by simp; omega, ⟨hwide, fun r row j v c h1 h2 h3 => ?_⟩⟩
        · simp only [Builtin.firstCells]; exact run_loadCells (hs.pubIn _ _ hb) _ hsz
        · rw [Array.getElem?_extract] at h3
          split at h3
          · exact (hrel r row j v c h1 h2 (by rw [← h3]; congr 1; omega)).up (noSig_le σ)
          · cases h3
  · subst h
    cases hr
    exact ⟨by simp [Builtin.lenOf], #[], by simp [Builtin.firstCells], by simp, ⟨hwide, fun r row j v c h1 => by simp at h1⟩⟩
  · rename_i i off len
    obtain ⟨rs, hi, hb, rfl⟩ := h
    have hl : ((rs.drop off).take len).length = len := by simp; omega
    rw [hl]
    cases hr with
    | sl hσ hlen hcap ha =>
      rename_i l a' cap
      by_cases h0 : len = 0
      · subst h0
        refine ⟨by simp [Builtin.lenOf], #[], ?_, by simp, ⟨hwide, fun r row j v c h1 => by simp at h1⟩⟩
        cases a' <;> simp [Builtin.firstCells, loadCells, loadCellsFrom]
      · obtain ⟨rfl, hfit⟩ := ha (by omega)
        obtain ⟨hn, hle, cs, ty, hbk, hsz, hR⟩ := hs.rows hi hσ (by rintro rfl; simp at hb; omega)
        obtain ⟨l', hl1, hl2, _⟩ := hs.obj i _ hi
        rw [hσ] at hl1; cases hl1
        subst hl2
        have hmul : off * l.esz + len * l.esz ≤ l.n * l.esz := by rw [← Nat.add_mul]; exact Nat.mul_le_mul_right _ (by omega)
        refine ⟨by simp [Builtin.lenOf], cs.extract (l.o + off * l.esz) (l.o + off * l.esz + len * l.esz), ?_, by simp; omega, ⟨hwide, fun r row j v c h1 h2 h3 => ?_⟩⟩
        · simp only [Builtin.firstCells]; exact run_loadCells hbk _ (by omega)
        · rw [Array.getElem?_extract] at h3
          rw [List.getElem?_take] at h1
          split at h1
          · rw [List.getElem?_drop] at h1
            split at h3
            · refine hR.rel (off + r) row j v c h1 h2 ?_
              rw [Nat.add_mul, ← h3]; congr 1; omega
            · cases h3
          · cases h1
  · exact h.elim

theorem RowsIn.append {Rl : PV → Value → Prop} {xs ys : List (List PV)} {xa ya : Array Value} {esz : Nat} (h : RowsIn Rl xs xa 0 esz) (g : RowsIn Rl ys ya 0 esz) (hx : xa.size = xs.length * esz) (rest : Array Value) (hy : ya.size = ys.length * esz) : RowsIn Rl (xs ++ ys) (xa ++ ya ++ rest) 0 esz := by
  refine ⟨fun r row hr => ?_, fun r row j v c hr hj hc => ?_⟩
  · rw [List.getElem?_append] at hr
    split at hr
    · exact h.wide _ _ hr
    · exact g.wide _ _ hr
  · rw [List.getElem?_append] at hr
    have hjl := lt_of_getElem? hj
    split at hr
    · rename_i hlt
      rw [h.wide _ _ hr] at hjl
      have hf := row_fits (esz := esz) hlt (Nat.le_refl _)
      rw [Array.getElem?_append_left (by simp; omega), Array.getElem?_append_left (by omega)] at hc
      exact h.rel _ _ _ _ _ hr hj hc
    · rename_i hge
      rw [g.wide _ _ hr] at hjl
      have hrl := lt_of_getElem? hr
      have hf := row_fits (esz := esz) hrl (Nat.le_refl _)
      have h9 : r * esz = xs.length * esz + (r - xs.length) * esz := by rw [← Nat.add_mul]; congr 1; omega
      rw [Array.getElem?_append_left (by simp; omega), Array.getElem?_append_right (by omega)] at hc
      refine g.rel _ _ _ _ _ hr hj ?_
      rw [← hc]; congr 1; omega

theorem run_append_place {w : World} {T T2 : TypeId} {el : TypeId} {d2 : TypeDesc} {ei : TypeInfo} (h2 : P.underlying T = some (.slice el)) (hei : P.info? el = some ei) (hd2 : P.underlying T2 = some d2) (hd : ∀ kd, d2 ≠ .int kd)
    {a : Option Addr} {len cap n : Nat} {y : Value} {arr : Array Value} {ty : TypeId} (hl : (Builtin.lenOf y).run P w = .ok n w) (hf : (Builtin.firstCells ei.size n y).run P w = .ok arr w) (hc : len + n ≤ cap) :
    (Builtin.append_ #[T, T2] ty #[.slice a len cap, y]).run P w = ((match a with | some a => storeCells (a.add (len * ei.size)) arr.toList | none => pure () : Sem Unit).run P w).andThen fun _ w' => .ok (.slice a (len + n) cap) w' := by
  have hx : (match d2 with | .int _ => true | _ => false) = false := by cases d2 <;> first | rfl | (exact absurd rfl (hd _))
  simp [Builtin.append_, run_underlying' h2, run_sizeOf' hei, run_underlying' hd2, hx, hl, hf, hc]
  cases a <;> simp

theorem run_append_grow {w : World} {T T2 : TypeId} {el : TypeId} {d2 : TypeDesc} {ei : TypeInfo} {zv : Value} (h2 : P.underlying T = some (.slice el)) (hei : P.info? el = some ei) (hz : ei.zero = some zv) (hd2 : P.underlying T2 = some d2) (hd : ∀ kd, d2 ≠ .int kd)
    {a : Option Addr} {len cap n : Nat} {y : Value} {old arr : Array Value} {ty : TypeId} (hl : (Builtin.lenOf y).run P w = .ok n w) (hf : (Builtin.firstCells ei.size n y).run P w.drew = .ok arr w.drew)
    (ho : (Builtin.firstCells ei.size len (.slice a len cap)).run P w.drew = .ok old w.drew) (hc : ¬ len + n ≤ cap) (hb : ei.bytes ≠ 0) (hroom : (len + n) * ei.bytes ≤ 140737488355328) :
    ∃ nc, len + n ≤ nc ∧ nc ≤ maxLen ∧
      (Builtin.append_ #[T, T2] ty #[.slice a len cap, y]).run P w = .ok (.slice (some ⟨w.heap.size, 0, none⟩) (len + n) nc) (w.drew.alloc (.cells (old ++ arr ++ Builtin.zeroCells zv.cells (nc - (len + n))) el)) := by
  have hx : (match d2 with | .int _ => true | _ => false) = false := by cases d2 <;> first | rfl | (exact absurd rfl (hd _))
  have hle : len + n ≤ (len + n) * ei.bytes := Nat.le_mul_of_pos_right _ (by omega)
  have hcap := growslice_fits (need := len + n) (old := cap) (bytes := ei.bytes) (by omega) hroom
  have hcap' : ¬ (281474976710656 < Builtin.nextslicecap (len + n) cap * ei.bytes) := by omega
  have hq : (Question.appendCap (len + n) cap el).forced = false := rfl
  refine ⟨(Question.appendCap (len + n) cap el).cut (w.tape w.drawn (.appendCap (len + n) cap el)), ?_, ?_, ?_⟩
  · simp only [Question.cut]; omega
  · simp only [Question.cut, maxLen]
    have := Nat.mod_lt (w.tape w.drawn (.appendCap (len + n) cap el)) (show 0 < 2 ^ 63 - (len + n) by omega)
    omega
  · have h64 : ¬ (IntKind.i64.max < (len : Int) + (n : Int) ∧ ei.bytes = 0) := by omega
    simp [Builtin.append_, run_underlying' h2, run_sizeOf' hei, run_underlying' hd2, hx, hl, hc, run_typeInfo' hei, hb, hq, zeroValue, hz, newRow, hcap', hf, ho]

theorem killP_length (s : Store) (x : PV) : (killP s x).length = s.length := by cases x <;> simp [killP]

theorem ok_append {x y : Operand} {T T2 : TypeId} {ti ti2 : TI} (ho : o.op = .call { callee := .builtin .append, args := #[x, y], argTypes := #[T, T2] }) (ht : tinfo P T = some ti) (ht2 : tinfo P T2 = some ti2) (hk2 : ∀ kd, ti2.kind ≠ .int kd)
    (h : WAppend ti s (evO e x) (evO e y) k) : OpOK P N o e s k := by
  intro C pub σ a w next Q hs he hnext
  obtain ⟨i, d, h1, h2, rfl⟩ := tinfo_some ht
  obtain ⟨i2, d2, _, hd2, rfl⟩ := tinfo_some ht2
  have hd : ∀ kd, d2 ≠ .int kd := by rintro kd rfl; exact hk2 kd rfl
  obtain ⟨el, esz, by', ag, z, xs, ys, hk, hzl, hez, hby, hx, hdst, hy, hcell, hroom, hkk⟩ := h
  obtain ⟨rfl, ei, hei, rfl, rfl, _, hz⟩ := tkOf_slice hk
  have hrx := evO_rel he x
  have hry := evO_rel he y
  obtain ⟨zv, hzv, hzr⟩ := zero_relA (pub := pub) (σ := σ) hei hz
  have hzs : zv.cells.size = ei.size := by rw [← hzl, hzr.1]
  have hxw : ∀ row ∈ xs, row.length = ei.size := by
    generalize evO e x = px at hx hdst hrx
    obtain ⟨cq, hcq⟩ : ∃ cq, a.eval x = cq := ⟨_, rfl⟩
    rw [hcq] at hrx
    unfold WSrc at hx
    split at hx
    · simp [isDst] at hdst
    · subst hx; simp
    · rename_i j off len
      obtain ⟨rs, hi, hb, rfl⟩ := hx
      intro row hrow
      have hrow' := List.mem_of_mem_drop (List.mem_of_mem_take hrow)
      obtain ⟨r, hr⟩ := List.mem_iff_getElem?.1 hrow'
      cases hrx with
      | sl hσ _ _ _ =>
        obtain ⟨_, _, cs, ty, _, _, hR⟩ := hs.rows hi hσ (by rintro rfl; simp at hr)
        obtain ⟨l', hl1, hl2, _⟩ := hs.obj j _ hi
        rw [hσ] at hl1; cases hl1
        rw [← hl2]; exact hR.wide r row hr
    · exact hx.elim
  have hyw : ∀ row ∈ ys, row.length = ei.size := fun row hrow => (hcell row hrow).1
  obtain ⟨hlx, xa, hfx, hxs, hxR⟩ := src_run (P := P) hs hx hrx hxw
  obtain ⟨hly, ya, hfy, hys, hyR⟩ := src_run (P := P) hs hy hry hyw
  have hs1 : SR C pub σ s w.drew := hs.drawn rfl rfl rfl rfl
  obtain ⟨_, xa1, hfx1, hxs1, hxR1⟩ := src_run (P := P) hs1 hx hrx hxw
  obtain ⟨_, ya1, hfy1, hys1, hyR1⟩ := src_run (P := P) hs1 hy hry hyw
  obtain ⟨cx, hv⟩ : ∃ cx, a.eval x = cx := ⟨_, rfl⟩
  obtain ⟨cy, hvy⟩ : ∃ cy, a.eval y = cy := ⟨_, rfl⟩
  rw [hv] at hrx hlx hfx hfx1
  rw [hvy] at hry hly hfy hfy1
  obtain ⟨aa, cap, rfl⟩ : ∃ aa cap, cx = .slice aa xs.length cap := by
    generalize evO e x = px at hx hdst hrx
    cases hrx <;> simp [isDst] at hdst
    · simp [WSrc] at hx; subst hx; exact ⟨none, 0, rfl⟩
    · rename_i off len l a' cap _ _ _ _
      obtain ⟨rs, hi, hb, rfl⟩ := hx
      exact ⟨a', cap, by simp; omega⟩
  have hexec : (execOp a.eval o).run P w = ((Builtin.append_ #[T, T2] o.type #[.slice aa xs.length cap, cy]).run P w).andThen fun v w' => .ok (.value v) w' := by
    simp [execOp, ho, resolve, invoke, builtin, hv, hvy]
  by_cases hc : xs.length + ys.length ≤ cap
  · have hplace := run_append_place (ty := o.type) (a := aa) (len := xs.length) h2 hei hd2 hd hly hfy hc
    have hone : ∀ v ∈ ya.toList, v.oneCell' = true := by
      intro v hv'
      obtain ⟨q, hq⟩ := List.mem_iff_getElem?.1 hv'
      rw [Array.getElem?_toList] at hq
      have hql : q < ys.length * ei.size := by
        rcases Nat.lt_or_ge q ya.size with h | h
        · omega
        · simp [Array.getElem?_eq_none h] at hq
      have hr' : q / ei.size < ys.length := (Nat.div_lt_iff_lt_mul (by omega)).2 hql
      have hj' : q % ei.size < ei.size := Nat.mod_lt _ (by omega)
      have hrow : ys[q / ei.size]? = some ys[q / ei.size] := List.getElem?_eq_getElem hr'
      have hc' := hcell _ (List.getElem_mem hr')
      have hjr : ys[q / ei.size][q % ei.size]? = some (ys[q / ei.size][q % ei.size]'(by omega)) := List.getElem?_eq_getElem (by omega)
      refine isCell_rel (List.all_eq_true.1 hc'.2 _ (List.getElem_mem (by omega : q % ei.size < ys[q / ei.size].length))) (hyR.rel _ _ _ _ v hrow hjr ?_)
      rw [← hq, Nat.zero_add, Nat.mul_comm, Nat.div_add_mod]
    by_cases hcap0 : cap = 0
    · have hx0 : xs = [] := List.length_eq_zero_iff.1 (by omega)
      have hy0 : ys = [] := List.length_eq_zero_iff.1 (by omega)
      have hya0 : ya.toList = [] := by
        have : ya.size = 0 := by rw [hys, hy0]; simp
        simpa using this
      have hrun : (execOp a.eval o).run P w = .ok (.value (.slice aa (xs.length + ys.length) cap)) w := by
        rw [hexec, hplace, hya0]
        cases aa <;> simp [storeCells]
      have hvoid := hs.void 0 0 ei.size
      have hfin : SR C pub (σ.add s.length ⟨0, 0, ei.size, 0⟩) (killP s (evO e x) ++ [.rows ei.size (xs ++ ys)]) w := by
        rw [hx0, hy0]
        generalize evO e x = px at hx hdst
        cases px <;> simp [isDst] at hdst
        · exact hvoid
        · rename_i i off len
          have hd3 := hvoid.drop i
          obtain ⟨rs, hi, _⟩ := hx
          rw [List.set_append_left _ _ (lt_of_getElem? hi)] at hd3
          exact hd3
      exact wp_value hrun (hnext _ _ _ pub _ _ hkk hfin (he.mono PHeap.le.rfl' (hs.toBase.le_add _)) (.sl (Sig.add_same _ _ _) hc (by omega) (fun h => by omega)))
    · generalize evO e x = px at hx hdst hrx hkk
      generalize hcx : Value.slice aa xs.length cap = cxx at hrx
      cases hrx
      case nilsl => simp at hcx; exact absurd hcx.2.2 hcap0
      case sl i off len l a' cap' hlen hcapm ha hσ =>
        simp only [Value.slice.injEq] at hcx
        obtain ⟨rfl, rfl, rfl⟩ := hcx
        obtain ⟨rfl, hfit⟩ := ha (by omega)
        obtain ⟨rs, hi, hb, hxs'⟩ := hx
        obtain ⟨l₀, hl1, hl2, hl3, hl4⟩ := hs.obj i _ hi
        rw [hσ] at hl1; cases hl1
        obtain ⟨hpub, cs, ty, hbk, hsz, hR⟩ := hl4 (by omega)
        have hmul : off * l.esz + cap * l.esz ≤ l.n * l.esz := by rw [← Nat.add_mul]; exact Nat.mul_le_mul_right _ hfit
        have hmul2 : xs.length * l.esz + ys.length * l.esz ≤ cap * l.esz := by rw [← Nat.add_mul]; exact Nat.mul_le_mul_right _ hc
        have hxrel : RowsIn (Rel pub σ) xs cs (l.o + off * l.esz) l.esz := by
          refine ⟨fun r row hr => hl2 ▸ hxw row (List.mem_of_getElem? hr), fun r row j v c hr hj hc' => ?_⟩
          rw [hxs', List.getElem?_take] at hr
          split at hr
          · rw [List.getElem?_drop] at hr
            refine hR.rel (off + r) row j v c hr hj ?_
            rw [Nat.add_mul, ← hc']; congr 1; omega
          · cases hr
        have hre := hs.rehome i _ l ⟨l.b, l.o + off * l.esz, l.esz, cap⟩ hi (by simp) hσ (by omega) rfl (.rows ei.size xs)
          ⟨_, Sig.add_same _ _ _, hl2, by simp; omega, fun _ => ⟨hpub, cs, ty, hbk, by simp; omega, hxrel.up (hs.toBase.le_add _)⟩⟩
        have hlenS : (s.set i .dead).length = s.length := by simp
        have hget : (s.set i .dead ++ [.rows ei.size xs])[s.length]? = some (.rows ei.size xs) := by
          rw [List.getElem?_append_right (by simp)]; simp
        have hstore := run_storeCells (P := P) ya.toList (w := w) (b := l.b) (o := l.o + off * l.esz + xs.length * l.esz) 0 hbk (by simp only [Array.length_toList, hys, ← hl2]; omega) hone
        rw [Nat.add_zero] at hstore
        have hlb : l.b < w.heap.size := (ObjOK.alive hs.obj ⟨_, hi, by simp, hσ, by omega⟩).2
        have hwr := hre.write hget (by simp) (Sig.add_same _ _ _) (by simp; omega) (.rows ei.size (xs ++ ys)) (.cells (spliceA cs (l.o + off * l.esz + xs.length * l.esz) ya.toList) ty (0, 0)) (by simp)
          ⟨_, Sig.add_same _ _ _, hl2, by simp; omega, fun _ => ⟨hpub, spliceA cs (l.o + off * l.esz + xs.length * l.esz) ya.toList, ty, by simp [Array.getElem?_setIfInBounds, hlb], by rw [spliceA_size]; simp; omega, ?_⟩⟩
        · rw [List.set_append_right _ _ (by simp)] at hwr
          simp only [hlenS, Nat.sub_self, List.set_cons_zero] at hwr
          refine wp_value (w' := _) ?_ (hnext _ _ _ pub _ _ hkk hwr (he.mono PHeap.le.rfl' (hs.toBase.le_add _)) (.sl (a := some ⟨l.b, l.o + off * l.esz, none⟩) (Sig.add_same _ _ _) hc (by omega) (fun _ => ⟨by simp, by simp⟩)))
          rw [hexec, hplace]
          simp only [Addr.add_at, ← hl2, hstore, Result.andThen_ok]
        · have hxl : ya.toList.length = ys.length * l.esz := by simp [hys, hl2]
          refine ⟨fun r row hr => ?_, fun r row j v c hr hj hc' => ?_⟩
          · rw [List.getElem?_append] at hr
            split at hr
            · exact hl2 ▸ hxw row (List.mem_of_getElem? hr)
            · exact hl2 ▸ hyw row (List.mem_of_getElem? hr)
          · have hjl := lt_of_getElem? hj
            simp only at hc'
            rw [spliceA_get _ _ _ _ (by rw [hxl]; omega), hxl] at hc'
            rw [List.getElem?_append] at hr
            split at hr
            · rename_i hlt
              rw [hxw row (List.mem_of_getElem? hr), ← hl2] at hjl
              have hf := row_fits (esz := l.esz) hlt (Nat.le_refl _)
              rw [if_neg (by omega)] at hc'
              exact (hxrel.rel r row j v c hr hj hc').up (hs.toBase.le_add _)
            · rename_i hge
              rw [hyw row (List.mem_of_getElem? hr), ← hl2] at hjl
              have hrl := lt_of_getElem? hr
              have hf := row_fits (esz := l.esz) hrl (Nat.le_refl _)
              have h9 : r * l.esz = xs.length * l.esz + (r - xs.length) * l.esz := by rw [← Nat.add_mul]; congr 1; omega
              rw [if_pos (by omega), Array.getElem?_toList] at hc'
              refine (hyR.rel (r - xs.length) row j v c hr hj ?_).up (hs.toBase.le_add _)
              rw [← hc', ← hl2]; congr 1; omega
      all_goals simp [isDst] at hdst
  · obtain ⟨nc, hn1, hn2, hrun⟩ := run_append_grow (ty := o.type) h2 hei hzv hd2 hd hly hfy1 hfx1 hc hby hroom
    have hle1 := hs1.toBase.le_add ⟨w.heap.size, 0, ei.size, nc⟩
    have hnew := new_rows hs1 (xa1 ++ ya1 ++ Builtin.zeroCells zv.cells (nc - (xs.length + ys.length))) el ei.size nc (xs ++ ys) (by simp; omega)
      (by simp only [Array.size_append, hxs1, hys1, size_zeroCells, hzs]; rw [← Nat.add_mul, ← Nat.add_mul]; exact Nat.mul_le_mul_right _ (by omega)) (hxR1.append hyR1 hxs1 _ hys1)
    have hfin : SR C pub (σ.add s.length ⟨w.heap.size, 0, ei.size, nc⟩) (killP s (evO e x) ++ [.rows ei.size (xs ++ ys)]) (w.drew.alloc (.cells (xa1 ++ ya1 ++ Builtin.zeroCells zv.cells (nc - (xs.length + ys.length))) el)) := by
      generalize evO e x = px at hx hdst
      cases px <;> simp [isDst] at hdst
      · exact hnew
      · rename_i i off len
        have hd3 := hnew.drop i
        obtain ⟨rs, hi, _⟩ := hx
        rw [List.set_append_left _ _ (lt_of_getElem? hi)] at hd3
        exact hd3
    exact wp_value (by rw [hexec, hrun]; rfl) (hnext _ _ _ pub _ _ hkk hfin (he.mono PHeap.le.rfl' hle1) (sl_new hn1 (Nat.le_refl _) hn2))

end
end Go.Pv
