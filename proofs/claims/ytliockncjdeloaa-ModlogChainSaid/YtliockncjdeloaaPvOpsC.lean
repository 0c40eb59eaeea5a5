/-
  Values seen as data, the sixth text: memory that a call makes.
-/
import Derived.Test.YtliockncjdeloaaPvOpsB
namespace Go.Pv
open Go Go.RowKit
set_option linter.unusedVariables false
set_option linter.unusedSimpArgs false

section
variable {P : Program} {N : Nat} {o : Oper} {e : Env} {s : Store} {k : PV → Store → Prop}

/-- a new row of places: what a make, a literal and a growing append leave -/
theorem new_rows {C : Ctx} {pub : PHeap} {σ : Sig} {w : World} (hs : SR C pub σ s w) (cs : Array Value) (ty : TypeId) (esz n : Nat) (rows : List (List PV)) (hn : rows.length ≤ n) (hsz : n * esz ≤ cs.size) (hr : RowsIn (Rel pub σ) rows cs 0 esz) :
    SR C pub (σ.add s.length ⟨w.heap.size, 0, esz, n⟩) (s ++ [.rows esz rows]) { w with heap := w.heap.push (.cells cs ty) } := by
  refine hs.push _ _ ⟨w.heap.size, 0, esz, n⟩ rfl ?_
  refine ⟨_, Sig.add_same _ _ _, rfl, hn, fun _ => ⟨hs.toBase.pub_size (Nat.le_refl _), cs, ty, by simp, by simpa using hsz, hr.up (hs.toBase.le_add _)⟩⟩

theorem sl_new {pub : PHeap} {σ : Sig} {i b esz n len cap : Nat} (hc : len ≤ cap) (hn : cap ≤ n) (hm : cap ≤ maxLen) : Rel pub (σ.add i ⟨b, 0, esz, n⟩) (.sl i 0 len) (.slice (some ⟨b, 0, none⟩) len cap) :=
  .sl (Sig.add_same _ _ _) hc hm fun _ => ⟨by simp, by simpa using hn⟩

theorem wrap_small {n : Int} (h0 : 0 ≤ n) (h1 : n ≤ 9223372036854775807) : IntKind.i64.wrap n = n := by
  have h2 : n % (2 ^ 64 : Int) = n := Int.emod_eq_of_lt h0 (by omega)
  unfold IntKind.wrap
  simp only [IntKind.bits, IntKind.signed, h2, Bool.true_and]
  rw [if_neg (by simp; omega)]

theorem flat_zero (z : Array Value) (n i : Nat) (hi : i < n * z.size) : ((Array.range (n * z.size)).map fun j => z[j % z.size]!)[i]? = some (z[i % z.size]!) := by
  simp [hi]

theorem mod_place {r esz j : Nat} (hj : j < esz) : (r * esz + j) % esz = j := by
  rw [Nat.mul_comm, Nat.mul_add_mod]; exact Nat.mod_eq_of_lt hj

/-- rows of zero values, laid as the machine lays them -/
theorem zero_rows {pub : PHeap} {σ : Sig} {T : TypeId} {i : TypeInfo} {zv : Value} (h1 : P.info? T = some i) (hz : i.zero = some zv) {m n : Nat} (hmn : m ≤ n) {z : List PV} (hzz : zeroOf P T = some z) :
    RowsIn (Rel pub σ) (List.replicate m z) ((Array.range (n * zv.cells.size)).map fun j => zv.cells[j % zv.cells.size]!) 0 zv.cells.size := by
  have hz' : z = zv.cells.toList.map (ofConst 3) := by
    simp only [zeroOf, h1, Option.bind_some, hz, Option.map_some, Option.some.injEq] at hzz; exact hzz.symm
  refine ⟨fun r row hr => ?_, fun r row j v c hr hj hc => ?_⟩
  · rw [List.getElem?_replicate] at hr
    split at hr
    · cases hr; simp [hz']
    · cases hr
  · rw [List.getElem?_replicate] at hr
    split at hr
    · rename_i hrm
      cases hr
      have hjl := lt_of_getElem? hj
      rw [hz', List.length_map] at hjl
      have hjl' : j < zv.cells.size := by simpa using hjl
      have hf := row_fits (r := r) (n := n) (esz := zv.cells.size) (len := n) (by omega) (Nat.le_refl _)
      rw [flat_zero _ _ _ (by omega), Nat.zero_add, mod_place hjl'] at hc
      cases hc
      rw [hz', List.getElem?_map, Array.getElem?_toList, Array.getElem?_eq_getElem hjl', Option.map_some] at hj
      cases hj
      have : zv.cells[j]! = zv.cells[j] := by simp [hjl']
      rw [this]
      exact ofConst_rel _ _ _ _
    · cases hr

def WMake (ti : TI) (s : Store) (l c : PV) (k : PV → Store → Prop) : Prop :=
  ∃ e esz by' ag z kl kc m n, ti.kind = .slice e esz by' ag (some z) ∧ z.length = esz ∧ l = .int kl m ∧ c = .int kc n ∧ 0 ≤ m ∧ m ≤ n ∧ by' * n ≤ 281474976710656 ∧ n ≤ 9223372036854775807 ∧
    k (.sl s.length 0 m.toNat) (s ++ [.rows esz (List.replicate m.toNat z)])

theorem ok_make {T : TypeId} {x y : Operand} {ti : TI} (ho : o.op = .makeSlice T x y) (ht : tinfo P T = some ti) (h : WMake ti s (evO e x) (evO e y) k) : OpOK P N o e s k := by
  intro C pub σ a w next Q hs he hnext
  obtain ⟨i, d, h1, h2, rfl⟩ := tinfo_some ht
  obtain ⟨el, esz, by', ag, z, kl, kc, m, n, hk, hzl, hx, hy, h0, hmn, hby, hmax, hkk⟩ := h
  obtain ⟨rfl, ei, hei, rfl, rfl, _, hz⟩ := tkOf_slice hk
  have hr := evO_rel he x
  have hry := evO_rel he y
  rw [hx] at hr; rw [hy] at hry
  generalize hv : a.eval x = cv at hr
  generalize hvy : a.eval y = cy at hry
  cases hr; cases hry
  obtain ⟨zv, hzv, hzz⟩ : ∃ zv, ei.zero = some zv ∧ z = zv.cells.toList.map (ofConst 3) := by
    simp only [zeroOf, hei, Option.bind_some, Option.map_eq_some_iff] at hz
    obtain ⟨zv, h3, h4⟩ := hz
    exact ⟨zv, h3, h4.symm⟩
  have hzs : zv.cells.size = ei.size := by rw [← hzl, hzz]; simp
  have w1 := wrap_small h0 (Int.le_trans hmn hmax)
  have w2 := wrap_small (Int.le_trans h0 hmn) hmax
  have hc1 : ¬ ((ei.bytes : Int) * n > 281474976710656) := by omega
  have hle := hs.toBase.le_add ⟨w.heap.size, 0, ei.size, n.toNat⟩
  have hrun : (execOp a.eval o).run P w = .ok (.value (.slice (some ⟨w.heap.size, 0, none⟩) m.toNat n.toNat)) { w with heap := w.heap.push (.cells ((Array.range (n.toNat * ei.size)).map fun j => zv.cells[j % zv.cells.size]!) el) } := by
    have hn0 : ¬ n < 0 := by omega
    have hm0 : ¬ m < 0 := by omega
    have hmn' : ¬ m > n := by omega
    have er : ∀ f : Nat → Value, (Array.range 0).map f = #[] := fun f => Array.eq_empty_of_size_eq_zero (by simp)
    by_cases hz0 : n.toNat * ei.size = 0
    · simp [execOp, ho, hv, hvy, Instr.makeSlice, run_underlying' h2, asInt, asIntOf, run_typeInfo' hei, w1, w2, hn0, hm0, hc1, hmn', run_sizeOf' hei, hz0, newRow, er]
    · simp [execOp, ho, hv, hvy, Instr.makeSlice, run_underlying' h2, asInt, asIntOf, run_typeInfo' hei, w1, w2, hn0, hm0, hc1, hmn', run_sizeOf' hei, hz0, newRow, zeroValue, hzv]
  refine wp_value hrun (hnext _ _ _ pub _ _ hkk (new_rows hs _ el ei.size n.toNat _ (by simp; omega) (by simp) ?_) (he.mono PHeap.le.rfl' hle) (sl_new (by omega) (Nat.le_refl _) (by simp [maxLen]; omega)))
  have := zero_rows (pub := pub) (σ := σ) hei hzv (m := m.toNat) (n := n.toNat) (by omega) hz
  rw [hzs] at this
  rw [hzs]; exact this

/-- cutting a slice or a string -/
def boundP (v : Option PV) (d : Nat) : Option Int := match v with
  | none => some d
  | some (.int _ n) => some n
  | _ => none
def WSlice (ti : TI) (s : Store) (x : PV) (lo hi : Option PV) (k : PV → Prop) : Prop :=
  ∃ l hh, boundP lo 0 = some l ∧ match ti.kind, x with
  | .string, .str t => boundP hi t.size = some hh ∧ 0 ≤ l ∧ l ≤ hh ∧ hh ≤ t.size ∧ (t.size ≤ maxLen → k (.str (t.extract l.toNat hh.toNat)))
  | .slice _ esz _ _ _, .list xs => boundP hi xs.length = some hh ∧ 0 ≤ l ∧ l ≤ hh ∧ hh ≤ xs.length ∧ (∀ row ∈ xs, row.length = esz) ∧ k (.list ((xs.take hh.toNat).drop l.toNat))
  | .slice _ esz _ _ _, .sl i off len => boundP hi len = some hh ∧ 0 ≤ l ∧ l ≤ hh ∧ hh ≤ len ∧ (∃ rows, s[i]? = some (.rows esz rows)) ∧ k (.sl i (off + l.toNat) (hh.toNat - l.toNat))
  | .slice .., .nilsl => boundP hi 0 = some hh ∧ 0 ≤ l ∧ l ≤ hh ∧ hh ≤ 0 ∧ k .nilsl
  | _, _ => False

theorem bound_run {w : World} {pub : PHeap} {σ : Sig} {a : Act} (he : ER pub σ N e a) {lo : Option Operand} {d y : Nat} {l : Int} {code : BoundsCode} (h : boundP (lo.map (evO e)) d = some l) (h0 : 0 ≤ l) (h1 : l ≤ y) :
    (match lo.map a.eval with | some v => Instr.sliceBound v y code | none => pure d : Sem Nat).run P w = .ok l.toNat w := by
  cases lo with
  | none => simp [boundP] at h; subst h; simp
  | some x =>
    have hr := evO_rel he x
    simp only [Option.map_some] at h ⊢
    cases hx : evO e x <;> simp only [hx, boundP] at h <;> first | (cases h; done) | skip
    rename_i kd n
    cases h
    rw [hx] at hr
    generalize hv : a.eval x = cv at hr
    cases hr
    simp [Instr.sliceBound, asIntOf, h0, h1]

theorem ok_slice {T : TypeId} {x : Operand} {lo hi : Option Operand} {ti : TI} (ho : o.op = .slice T x lo hi none) (ht : tinfo P T = some ti) (h : WSlice ti s (evO e x) (lo.map (evO e)) (hi.map (evO e)) fun v => k v s) : ReadOK P N o e s k :=
  fun C pub σ a w hs he => by
    obtain ⟨i, d, h1, h2, rfl⟩ := tinfo_some ht
    obtain ⟨l, hh, hlo, h⟩ := h
    have hr := evO_rel he x
    have hrun : ∀ (isSlice : Bool) (len cap : Nat), boundP (hi.map (evO e)) len = some hh → 0 ≤ l → l ≤ hh → hh ≤ cap → (Instr.sliceBounds isSlice len cap (lo.map a.eval) (hi.map a.eval) none).run P w = .ok (l.toNat, hh.toNat, cap) w := by
      intro isSlice len cap hb h0 hlh hc
      have e1 := bound_run (P := P) (w := w) he (code := if isSlice then .sliceAcap else .sliceAlen) (y := cap) hb (by omega) hc
      have e2 := bound_run (P := P) (w := w) he (code := .sliceB) (y := hh.toNat) hlo h0 (by omega)
      unfold Instr.sliceBounds
      cases lo <;> cases hi <;> simp_all
    split at h
    · rename_i t hk heq
      obtain rfl := tkOf_string hk
      obtain ⟨hb, h0, hlh, hle, hkk⟩ := h
      rw [heq] at hr
      generalize hv : a.eval x = cv at hr
      cases hr with
      | str hm =>
        refine ⟨_, _, hkk hm, .str ?_, by simp [execOp, ho, hv, Instr.sliceAt, Instr.slice, run_underlying' h2, hrun false t.size t.size hb h0 hlh hle]⟩
        simp [ByteArray.size_extract]; omega
    · rename_i el esz by' ag z xs hk heq
      obtain ⟨rfl, ei, hei, rfl, _⟩ := tkOf_slice hk
      obtain ⟨hb, h0, hlh, hle, hall, hkk⟩ := h
      rw [heq] at hr
      generalize hv : a.eval x = cv at hr
      cases hr with
      | list0 hc =>
        rename_i a' cap
        simp only [List.length_nil] at hle hb
        have h3 : hh.toNat = 0 := by omega
        have h4 : l.toNat = 0 := by omega
        refine ⟨_, .slice (if cap = 0 then a' else a'.map (·.add 0)) 0 cap, hkk, by simpa using Rel.list0 hc, ?_⟩
        simp [execOp, ho, hv, Instr.sliceAt, Instr.slice, run_underlying' h2, hrun true 0 cap hb h0 hlh (by omega), run_sizeOf' hei, h3, h4]
      | list hbk hlen hcap hw hsz hrel =>
        rename_i b o' cs ty fr esz' cap
        have hx : (execOp a.eval o).run P w = .ok (.value (.slice (if cap = l.toNat then some ⟨b, o', none⟩ else some ⟨b, o' + l.toNat * ei.size, none⟩) (hh.toNat - l.toNat) (cap - l.toNat))) w := by
          simp [execOp, ho, hv, Instr.sliceAt, Instr.slice, run_underlying' h2, hrun true xs.length cap hb h0 hlh (by omega), run_sizeOf' hei, Addr.add_at]
        by_cases hz : hh.toNat - l.toNat = 0
        · have he2 : (xs.take hh.toNat).drop l.toNat = [] := List.drop_eq_nil_of_le (by simp; omega)
          rw [hz] at hx
          exact ⟨_, _, hkk, by rw [he2]; exact .list0 (by omega), hx⟩
        · have hne : cap ≠ l.toNat := by omega
          rw [if_neg hne] at hx
          obtain rfl : esz' = ei.size := by
            have h5 : xs[0]? = some xs[0] := List.getElem?_eq_getElem (by omega)
            have h6 := hw 0 _ h5
            have h7 := hall _ (List.getElem_mem (by omega : 0 < xs.length))
            omega
          have hln : ((xs.take hh.toNat).drop l.toNat).length = hh.toNat - l.toNat := by simp; omega
          refine ⟨_, _, hkk, ?_, hx⟩
          rw [← hln]
          refine .list (esz := ei.size) hbk (by omega) (by omega) ?_ ?_ ?_
          · intro r row hrow
            rw [List.getElem?_drop, List.getElem?_take] at hrow
            split at hrow
            · exact hw _ _ hrow
            · cases hrow
          · have := Nat.mul_le_mul_right ei.size (show l.toNat + (hh.toNat - l.toNat) ≤ xs.length by omega)
            rw [Nat.add_mul] at this
            rw [hln]; omega
          · intro r row j v c hrow hj hc
            rw [List.getElem?_drop, List.getElem?_take] at hrow
            split at hrow
            · refine hrel (l.toNat + r) row j v c hrow hj ?_
              rw [Nat.add_mul, ← hc]; congr 1; omega
            · cases hrow
    · rename_i el esz by' ag z j off len hk heq
      obtain ⟨rfl, ei, hei, rfl, _⟩ := tkOf_slice hk
      obtain ⟨hb, h0, hlh, hle, ⟨rows, hi⟩, hkk⟩ := h
      rw [heq] at hr
      generalize hv : a.eval x = cv at hr
      cases hr with
      | sl hσ hlen hcap ha =>
        rename_i lc a' cap
        obtain ⟨l', hl1, hl2, _⟩ := hs.obj j _ hi
        rw [hσ] at hl1; cases hl1
        have hx : (execOp a.eval o).run P w = .ok (.value (.slice (if cap = l.toNat then a' else a'.map (·.add (l.toNat * ei.size))) (hh.toNat - l.toNat) (cap - l.toNat))) w := by
          simp [execOp, ho, hv, Instr.sliceAt, Instr.slice, run_underlying' h2, hrun true len cap hb h0 hlh (by omega), run_sizeOf' hei, Addr.add_at]
        refine ⟨_, _, hkk, ?_, hx⟩
        refine .sl hσ (by omega) (by omega) fun h0' => ?_
        obtain ⟨rfl, h9⟩ := ha (by omega)
        rw [if_neg (by omega)]
        refine ⟨?_, by omega⟩
        simp only [Option.map_some, Addr.add_at, Option.some.injEq, Addr.mk.injEq, and_true, true_and]
        rw [Nat.add_mul, hl2]; omega
    · rename_i el esz by' ag z hk heq
      obtain ⟨rfl, ei, hei, rfl, _⟩ := tkOf_slice hk
      obtain ⟨hb, h0, hlh, hle, hkk⟩ := h
      rw [heq] at hr
      generalize hv : a.eval x = cv at hr
      cases hr
      refine ⟨_, _, hkk, .nilsl, ?_⟩
      have h3 : hh.toNat = 0 := by omega
      have h4 : l.toNat = 0 := by omega
      simp [execOp, ho, hv, Instr.sliceAt, Instr.slice, run_underlying' h2, hrun true 0 0 hb h0 hlh (by omega), run_sizeOf' hei, h3, h4]
    · exact h.elim

end
end Go.Pv
