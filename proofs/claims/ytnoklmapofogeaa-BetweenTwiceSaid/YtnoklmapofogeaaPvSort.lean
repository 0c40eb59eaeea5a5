/-
  Values seen as data: the library's sort and compaction of strings, by the kit's contracts.
-/
import Derived.Test.YtnoklmapofogeaaPvQt
import Derived.Test.YtnoklmapofogeaaTy
import Derived.Ground.NamesProg
import Derived.Shelf.Slices.In.CompactS
import Derived.Shelf.Slices.In.SortAlone
import Derived.Shelf.Slices.In.SortNone
import Derived.Sort.EveryDepth
import Derived.Sort.Grow
import Derived.Lib.RowBridge
namespace Go.Proofs
open Go.Shelf
def Try.laysSort_ren : Go.Shelf.Ren := ⟨fun | 190 => 122 | 125 => 142 | 258 => 141 | 128 => 174 | 129 => 175 | 302 => 165 | 303 => 166 | 304 => 167 | 305 => 168 | 306 => 169 | 307 => 170 | 308 => 171 | 309 => 172 | 310 => 173 | 333 => 179 | 329 => 180 | 330 => 181 | 334 => 182 | 335 => 183 | 336 => 184 | 344 => 188 | n => n, fun | 31 => 35 | 9 => 9 | 3 => 3 | 46 => 146 | 0 => 0 | 51 => 161 | 53 => 163 | 4 => 4 | 183 => 153 | 182 => 152 | 131 => 158 | 5 => 5 | 218 => 166 | 222 => 170 | 228 => 175 | 229 => 176 | n => n, fun | n => n⟩
theorem Try.laysSort : Go.Proofs.Lays.n190 Try.prog Try.laysSort_ren := {
  mixed := by kernel_rfl,
  f125 := Try.func142.trans (congrArg some (by kernel_rfl)),
  f128 := Try.func174.trans (congrArg some (by kernel_rfl)),
  f129 := Try.func175.trans (congrArg some (by kernel_rfl)),
  f190 := Try.func122.trans (congrArg some (by kernel_rfl)),
  f258 := Try.func141.trans (congrArg some (by kernel_rfl)),
  f302 := Try.func165.trans (congrArg some (by kernel_rfl)),
  f303 := Try.func166.trans (congrArg some (by kernel_rfl)),
  f304 := Try.func167.trans (congrArg some (by kernel_rfl)),
  f305 := Try.func168.trans (congrArg some (by kernel_rfl)),
  f306 := Try.func169.trans (congrArg some (by kernel_rfl)),
  f307 := Try.func170.trans (congrArg some (by kernel_rfl)),
  f308 := Try.func171.trans (congrArg some (by kernel_rfl)),
  f309 := Try.func172.trans (congrArg some (by kernel_rfl)),
  f310 := Try.func173.trans (congrArg some (by kernel_rfl)),
  f329 := Try.func180.trans (congrArg some (by kernel_rfl)),
  f330 := Try.func181.trans (congrArg some (by kernel_rfl)),
  f333 := Try.func179.trans (congrArg some (by kernel_rfl)),
  f334 := Try.func182.trans (congrArg some (by kernel_rfl)),
  f335 := Try.func183.trans (congrArg some (by kernel_rfl)),
  f336 := Try.func184.trans (congrArg some (by kernel_rfl)),
  f344 := Try.func188.trans (congrArg some (by kernel_rfl)),
  t0 := Try.underlying0,
  a0 := Try.isAgg0,
  z0 := Try.sizeOf0,
  v0 := Try.zeroValue0,
  t3 := Try.underlying3,
  a3 := Try.isAgg3,
  z3 := Try.sizeOf3,
  v3 := Try.zeroValue3,
  t4 := Try.underlying4,
  a4 := Try.isAgg4,
  z4 := Try.sizeOf4,
  v4 := Try.zeroValue4,
  t5 := Try.underlying5,
  a5 := Try.isAgg5,
  z5 := Try.sizeOf5,
  v5 := Try.zeroValue5,
  t9 := Try.underlying9,
  a9 := Try.isAgg9,
  z9 := Try.sizeOf9,
  v9 := Try.zeroValue9,
  t31 := Try.underlying35,
  a31 := Try.isAgg35,
  z31 := Try.sizeOf35,
  v31 := Try.zeroValue35,
  t46 := Try.underlying146,
  a46 := Try.isAgg146,
  z46 := Try.sizeOf146,
  v46 := Try.zeroValue146,
  t51 := Try.underlying161,
  a51 := Try.isAgg161,
  z51 := Try.sizeOf161,
  v51 := Try.zeroValue161,
  t53 := Try.underlying163,
  a53 := Try.isAgg163,
  z53 := Try.sizeOf163,
  v53 := Try.zeroValue163,
  t131 := Try.underlying158,
  a131 := Try.isAgg158,
  z131 := Try.sizeOf158,
  v131 := Try.zeroValue158,
  t182 := Try.underlying152,
  a182 := Try.isAgg152,
  z182 := Try.sizeOf152,
  v182 := Try.zeroValue152,
  t183 := Try.underlying153,
  a183 := Try.isAgg153,
  z183 := Try.sizeOf153,
  v183 := Try.zeroValue153,
  t218 := Try.underlying166,
  a218 := Try.isAgg166,
  z218 := Try.sizeOf166,
  v218 := Try.zeroValue166,
  t222 := Try.underlying170,
  a222 := Try.isAgg170,
  z222 := Try.sizeOf170,
  v222 := Try.zeroValue170,
  t228 := Try.underlying175,
  a228 := Try.isAgg175,
  z228 := Try.sizeOf175,
  v228 := Try.zeroValue175,
  t229 := Try.underlying176,
  a229 := Try.isAgg176,
  z229 := Try.sizeOf176,
  v229 := Try.zeroValue176 }
def Try.laysCompact_ren : Go.Shelf.Ren := ⟨fun | 194 => 123 | n => n, fun | 31 => 35 | 9 => 9 | 3 => 3 | 4 => 4 | 0 => 0 | n => n, fun | n => n⟩
theorem Try.laysCompact : Go.Proofs.Lays.n194 Try.prog Try.laysCompact_ren := {
  mixed := by kernel_rfl,
  f194 := Try.func123.trans (congrArg some (by kernel_rfl)),
  t0 := Try.underlying0,
  a0 := Try.isAgg0,
  z0 := Try.sizeOf0,
  v0 := Try.zeroValue0,
  t3 := Try.underlying3,
  a3 := Try.isAgg3,
  z3 := Try.sizeOf3,
  v3 := Try.zeroValue3,
  t4 := Try.underlying4,
  a4 := Try.isAgg4,
  z4 := Try.sizeOf4,
  v4 := Try.zeroValue4,
  t9 := Try.underlying9,
  a9 := Try.isAgg9,
  z9 := Try.sizeOf9,
  v9 := Try.zeroValue9,
  t31 := Try.underlying35,
  a31 := Try.isAgg35,
  z31 := Try.sizeOf35,
  v31 := Try.zeroValue35 }
end Go.Proofs
namespace Go.Pv
open Go Go.Sort Go.Proofs
set_option linter.unusedVariables false
set_option linter.unusedSimpArgs false

def ofL (x : List UInt8) : ByteArray := ⟨x.toArray⟩
def toL (b : ByteArray) : List UInt8 := b.data.toList
@[simp] theorem ofL_toL (b : ByteArray) : ofL (toL b) = b := by cases b; simp [ofL, toL]
@[simp] theorem toL_ofL (x : List UInt8) : toL (ofL x) = x := by simp [ofL, toL]
/-- sorted, as the library sorts -/
def sortL (l : List ByteArray) : List ByteArray := ((l.map toL).mergeSort fun x y => decide (x ≤ y)).map ofL
/-- each one once, of those that stand beside each other -/
def compL (l : List ByteArray) : List ByteArray := (Lib.compact (l.map toL)).map ofL
theorem sortL_length (l : List ByteArray) : (sortL l).length = l.length := by simp [sortL, List.length_mergeSort]
theorem sortL_toL (l : List ByteArray) : (sortL l).map toL = (l.map toL).mergeSort fun x y => decide (x ≤ y) := by
  unfold sortL; rw [List.map_map]; exact (List.map_congr_left fun x _ => toL_ofL x).trans (List.map_id _)
theorem compL_toL (l : List ByteArray) : (compL l).map toL = Lib.compact (l.map toL) := by
  unfold compL; rw [List.map_map]; exact (List.map_congr_left fun x _ => toL_ofL x).trans (List.map_id _)
theorem compL_length (l : List ByteArray) : (compL l).length ≤ l.length := by
  have := Lib.compact_length_le (l.map toL)
  simpa [compL] using this
theorem mem_of_compact {zs : List (List UInt8)} {x : List UInt8} (h : x ∈ Lib.compact zs) : x ∈ zs := by
  unfold Lib.compact Lib.compactUpTo at h
  obtain ⟨j, hj, rfl⟩ := List.mem_map.1 h
  rw [List.mem_filter, List.mem_range] at hj
  rw [getElem!_pos _ _ (by simpa using hj.1)]; simp
section
variable {C : Ctx} {p : PHeap} {σ : Sig} {s : Store} {w : World}
/-- blocks that nobody knows -/
theorem SR.grown (h : SR C p σ s w) (os : Array Obj) : SR C p σ s (Go.Sort.grow w os) := by
  have hold : ∀ b, b < w.heap.size → (w.heap ++ os)[b]? = w.heap[b]? := fun b hb => Array.getElem?_append_left hb
  exact {
    pubIn := fun b o hb => by
      have := h.pubIn b o hb
      show (w.heap ++ os)[b]? = _
      rw [hold b (by
        rcases Nat.lt_or_ge b w.heap.size with h1 | h1
        · exact h1
        · rw [Array.getElem?_eq_none h1] at this; cases this)]
      exact this
    obj := fun i o hi => (h.obj i o hi).mono PHeap.le.rfl' Sig.le.rfl' (fun l h1 h2 h3 => ⟨by
      show (w.heap ++ os)[l.b]? = _
      refine hold _ ?_
      exact (ObjOK.alive h.obj ⟨_, hi, h1, h2, h3⟩).2, rfl⟩)
    inj := h.inj
    sig := h.sig
    os := h.os
    tape := h.tape
    output := h.output
    size := by show _ ≤ (w.heap ++ os).size; rw [Array.size_append]; have := h.size; omega
    frame := fun b hb hd => by
      show (w.heap ++ os)[b]? = _ ∧ _
      rw [hold b (Nat.lt_of_lt_of_le hb h.size)]
      exact h.frame b hb hd
    own := h.own
    ple := h.ple
    sle := h.sle }
theorem putRow_eq {b o : Nat} {ca : Array Value} {ty : TypeId} (hb : w.heap[b]? = some (.cells ca ty (0, 0))) (zs : List ByteArray) (hsz : o + zs.length ≤ ca.size) :
    putRow encStr w b o (zs.map toL).toArray = { w with heap := w.heap.setIfInBounds b (.cells (spliceA ca o (zs.map Value.string)) ty (0, 0)) } := by
  unfold putRow mapBlock
  congr 1
  apply Array.ext_getElem?
  intro i
  rw [Array.getElem?_modify, Array.getElem?_setIfInBounds]
  by_cases hi : b = i
  · subst hi
    rw [if_pos rfl, if_pos rfl, hb]
    have hlt : b < w.heap.size := by
      rcases Nat.lt_or_ge b w.heap.size with h1 | h1
      · exact h1
      · rw [Array.getElem?_eq_none h1] at hb; cases hb
    rw [if_pos hlt]
    simp only [Option.map_some, onCells]
    congr 2
    apply Array.ext_getElem?
    intro j
    rw [spliceA_get _ _ _ _ (by simpa using hsz)]
    simp only [putCells, Array.getElem?_mapIdx, List.size_toArray, List.length_map]
    by_cases hj : o ≤ j ∧ j < o + zs.length
    · rw [if_pos hj]
      have hjc : j < ca.size := by omega
      rw [Array.getElem?_eq_getElem hjc]
      simp only [Option.map_some, if_pos hj]
      have hjz : j - o < zs.length := by omega
      rw [List.getElem?_map, List.getElem?_eq_getElem hjz]
      simp only [Option.map_some, Option.some.injEq]
      rw [getElem!_pos _ _ (by simpa using hjz)]
      simp only [List.getElem_toArray, List.getElem_map]
      show Value.string ⟨(toL _).toArray⟩ = _
      rw [show (⟨(toL zs[j - o]).toArray⟩ : ByteArray) = ofL (toL zs[j - o]) from rfl, ofL_toL]
    · rw [if_neg hj]
      cases hc : ca[j]? with
      | none => rfl
      | some v => simp only [Option.map_some, if_neg hj]
  · rw [if_neg hi, if_neg hi]
/-- other strings in an object's rows -/
theorem SR.putStrs (h : SR C p σ s w) {i : Nat} {loc : Loc} {l l2 : List ByteArray} (hi : s[i]? = some (.rows 1 (l.map strRow))) (hσ : σ i = some loc) (hn : 0 < l.length) (hl : l2.length = l.length) (hok : ∀ b ∈ l2, b.size ≤ maxLen) :
    SR C p σ (s.set i (.rows 1 (l2.map strRow))) (putRow encStr w loc.b loc.o (l2.map toL).toArray) := by
  obtain ⟨hn', hle, ca, ty, hb, hsz, hR⟩ := h.rows hi hσ (by intro e; simp at e; subst e; simp at hn)
  obtain ⟨l', hl1, hl2, _⟩ := h.obj i _ hi
  rw [hσ] at hl1; cases hl1
  rw [List.length_map] at hle
  rw [hl2] at hsz hR
  rw [putRow_eq hb l2 (by omega)]
  have := h.putRows (off := 0) (ys := l2.map strRow) (vs := l2.map Value.string) hi hσ hn' hb (by rw [hl2]; exact hsz) (by simp [hl]) (by rw [hl2]; exact hR) (by simp [hl2]) (by
    rw [hl2]
    refine ⟨fun r row hr => ?_, fun r row j v c hr hj hc => ?_⟩
    · rw [List.getElem?_map, Option.map_eq_some_iff] at hr
      obtain ⟨b, _, rfl⟩ := hr; rfl
    · rw [List.getElem?_map, Option.map_eq_some_iff] at hr
      obtain ⟨b, hb2, rfl⟩ := hr
      obtain rfl : j = 0 := by have := lt_of_getElem? hj; simp [strRow] at this; omega
      simp only [strRow, List.getElem?_cons_zero, Option.some.injEq] at hj
      subst hj
      rw [Nat.zero_add, Nat.mul_one, Nat.add_zero, List.getElem?_toArray, List.getElem?_map, hb2] at hc
      simp only [Option.map_some, Option.some.injEq] at hc
      subst hc
      exact .str (hok b (List.mem_of_getElem? hb2)))
  rw [Nat.zero_mul, Nat.add_zero] at this
  have e : Pv.putRows (l.map strRow) (l2.map strRow) 0 = l2.map strRow := by
    simp [Pv.putRows, hl]
  rw [e] at this
  exact this
theorem holds_strs (h : Base p σ s w) {i : Nat} {loc : Loc} {l : List ByteArray} (hi : s[i]? = some (.rows 1 (l.map strRow))) (hσ : σ i = some loc) (hn : 0 < l.length) :
    Holds encStr w loc.b loc.o (l.map toL).toArray ∧ loc.b < w.heap.size ∧ ∀ b ∈ l, b.size ≤ maxLen := by
  have h := SR.start h
  obtain ⟨hn', hle, ca, ty, hb, hsz, hR⟩ := h.rows hi hσ (by intro e; simp at e; subst e; simp at hn)
  obtain ⟨l', hl1, hl2, _⟩ := h.obj i _ hi
  rw [hσ] at hl1; cases hl1
  rw [List.length_map] at hle
  rw [hl2] at hsz hR
  have hlt : loc.b < w.heap.size := by
    rcases Nat.lt_or_ge loc.b w.heap.size with h1 | h1
    · exact h1
    · rw [Array.getElem?_eq_none h1] at hb; cases hb
  have hcell : ∀ (j : Nat) (hj : j < l.length), ca[loc.o + j]? = some (.string l[j]) ∧ l[j].size ≤ maxLen := by
    intro j hj
    have hjc : loc.o + j < ca.size := by omega
    have := hR.rel j (strRow l[j]) 0 (.str l[j]) ca[loc.o + j] (by rw [List.getElem?_map, List.getElem?_eq_getElem hj]; rfl) rfl (by rw [Nat.mul_one, Nat.add_zero]; exact Array.getElem?_eq_getElem hjc)
    rw [Array.getElem?_eq_getElem hjc]
    generalize ca[loc.o + j] = c at this
    cases this with
    | str h => exact ⟨rfl, h⟩
  refine ⟨fun j hj => ?_, hlt, fun b hb => ?_⟩
  · simp only [List.size_toArray, List.length_map] at hj
    obtain ⟨h1, _⟩ := hcell j hj
    refine ⟨?_, ?_⟩
    · unfold World.cell?
      rw [hb]
      simp only [Option.isSome_none, Bool.false_eq_true, if_false]
      rw [h1, getElem!_pos _ _ (by simpa using hj)]
      simp only [List.getElem_toArray, List.getElem_map]
      show _ = some (Value.string (ofL (toL l[j])))
      rw [ofL_toL]
    · unfold World.frozen?
      rw [hb]
      simp
  · obtain ⟨j, hj, rfl⟩ := List.getElem_of_mem hb
    exact (hcell j hj).2
end
theorem set_same {s : Store} {i : Nat} {o : PObj} (h : s[i]? = some o) : s.set i o = s := by
  apply List.ext_getElem?
  intro j
  rw [List.getElem?_set]
  split
  · subst_vars
    rw [if_pos (lt_of_getElem? h), h]
  · rfl
theorem sort_strs (s : Store) (i : Nat) (l : List ByteArray) (hi : s[i]? = some (.rows 1 (l.map strRow))) (hl : l.length < 4611686018427387904) :
    CallOK Go.Proofs.Try.prog 122 [.sl i 0 l.length] s (.tuple []) (s.set i (.rows 1 ((sortL l).map strRow))) := by
  intro pub σ w cargs hb ha
  obtain ⟨c, rfl⟩ : ∃ c, cargs = #[c] := by
    have := ha.1
    match cargs, this with
    | ⟨[c]⟩, _ => exact ⟨c, rfl⟩
  have hr := ha.2 0 _ _ rfl rfl
  cases hr with
  | sl hσ hlen hcap ha2 =>
    rename_i loc ad cap
    by_cases h0 : l.length = 0
    · have hle : l = [] := List.length_eq_zero_iff.1 h0
      subst hle
      refine Calls.mono (calls_of_every_depth fun D => AnyS.slices_Sort_string_none_alone Go.Proofs.Try.laysSort D ad cap w) ?_
      rintro e w' ⟨rfl, rfl⟩
      refine ⟨_, pub, σ, rfl, ?_, .tuple rfl fun j v c h => by simp at h⟩
      rw [show (sortL []).map strRow = [] from by simp [sortL], set_same (by simpa using hi)]
      exact SR.start hb
    · obtain ⟨rfl, hn⟩ := ha2 (by omega)
      obtain ⟨hH, hlt, hmx⟩ := holds_strs hb hi hσ (by omega)
      rw [Nat.zero_mul, Nat.add_zero]
      have hc := calls_of_every_depth fun D => AnyS.slices_Sort_string_alone Go.Proofs.Try.laysSort D loc.b loc.o cap (l.map toL) w hH hlt (by simpa using hl)
      rw [List.length_map] at hc
      refine Calls.mono hc ?_
      rintro e w' ⟨rfl, n, os, rfl⟩
      refine ⟨_, pub, σ, rfl, ?_, .tuple rfl fun j v c h => by simp at h⟩
      rw [← sortL_toL]
      refine SR.grown ?_ os
      refine SR.putStrs (l := l) (l2 := sortL l) ((SR.start hb).drawn (w' := Go.Sort.ahead w n) rfl rfl rfl rfl) hi hσ (by omega) (sortL_length l) fun b hbm => ?_
      unfold sortL at hbm
      obtain ⟨x, hx, rfl⟩ := List.mem_map.1 hbm
      rw [List.mem_mergeSort] at hx
      obtain ⟨b, hb2, rfl⟩ := List.mem_map.1 hx
      rw [ofL_toL]
      exact hmx b hb2
theorem compact_strs (s : Store) (i : Nat) (l : List ByteArray) (hi : s[i]? = some (.rows 1 (l.map strRow))) (hl : l.length < 4611686018427387904) :
    CallOK Go.Proofs.Try.prog 123 [.sl i 0 l.length] s (.sl i 0 (compL l).length) (s.set i (.rows 1 ((compL l ++ List.replicate (l.length - (compL l).length) (⟨#[]⟩ : ByteArray)).map strRow))) := by
  intro pub σ w cargs hb ha
  obtain ⟨c, rfl⟩ : ∃ c, cargs = #[c] := by
    have := ha.1
    match cargs, this with
    | ⟨[c]⟩, _ => exact ⟨c, rfl⟩
  have hr := ha.2 0 _ _ rfl rfl
  cases hr with
  | sl hσ hlen hcap ha2 =>
    rename_i loc ad cap
    by_cases h0 : l.length = 0
    · have hle : l = [] := List.length_eq_zero_iff.1 h0
      subst hle
      refine Calls.mono (calls_of_every_depth fun D => AnyS.slices_Compact_string_empty_in Go.Proofs.Try.laysCompact D ad cap w) ?_
      rintro e w' ⟨rfl, rfl⟩
      have hce : compL [] = [] := List.length_eq_zero_iff.1 (Nat.le_zero.1 (compL_length []))
      refine ⟨_, pub, σ, rfl, ?_, ?_⟩
      · rw [hce]
        simp only [List.length_nil, Nat.sub_self, List.replicate_zero, List.append_nil, List.map_nil]
        rw [set_same (by simpa using hi)]
        exact SR.start hb
      · rw [hce]; exact .sl hσ hlen hcap ha2
    · obtain ⟨rfl, hn⟩ := ha2 (by omega)
      obtain ⟨hH, hlt, hmx⟩ := holds_strs hb hi hσ (by omega)
      rw [Nat.zero_mul, Nat.add_zero]
      have hc := calls_of_every_depth fun D => AnyS.slices_Compact_string_in Go.Proofs.Try.laysCompact D loc.b loc.o cap (l.map toL) w hH (by simp; omega) (by simpa using hlen)
      rw [List.length_map] at hc
      refine Calls.mono hc ?_
      rintro e w' ⟨rfl, n, rfl⟩
      have hcl : (Lib.compact (l.map toL)).length = (compL l).length := by simp [compL]
      rw [hcl]
      refine ⟨_, pub, σ, rfl, ?_, ?_⟩
      · have he : Lib.compact (l.map toL) ++ List.replicate (l.length - (compL l).length) [] = (compL l ++ List.replicate (l.length - (compL l).length) (⟨#[]⟩ : ByteArray)).map toL := by
          rw [List.map_append, compL_toL]; simp [toL]
        rw [he]
        have hcle := compL_length l
        refine SR.putStrs ((SR.start hb).drawn (w' := Go.Sort.ahead w n) rfl rfl rfl rfl) hi hσ (by omega) (by simp; omega) fun b hbm => ?_
        rcases List.mem_append.1 hbm with hbm | hbm
        · unfold compL at hbm
          obtain ⟨x, hx, rfl⟩ := List.mem_map.1 hbm
          have hx2 := mem_of_compact hx
          obtain ⟨b, hb2, rfl⟩ := List.mem_map.1 hx2
          rw [ofL_toL]
          exact hmx b hb2
        · rw [List.mem_replicate] at hbm
          rw [hbm.2]; simp [maxLen]
      · have hcle := compL_length l
        refine .sl hσ (by omega) hcap fun h => ⟨by rw [Nat.zero_mul, Nat.add_zero], hn⟩
theorem sort_strs' {s : Store} {i n : Nat} (l : List ByteArray) (hi : s[i]? = some (.rows 1 (l.map strRow))) (hn : l.length = n) (hl : n ≤ 1000000) :
    CallOK Go.Proofs.Try.prog 122 [.sl i 0 n] s (.tuple []) (s.set i (.rows 1 ((sortL l).map strRow))) := by
  subst hn; exact sort_strs s i l hi (by omega)
theorem compact_strs' {s : Store} {i n : Nat} (l : List ByteArray) (hi : s[i]? = some (.rows 1 (l.map strRow))) (hn : l.length = n) (hl : n ≤ 1000000) :
    CallOK Go.Proofs.Try.prog 123 [.sl i 0 n] s (.sl i 0 (compL l).length) (s.set i (.rows 1 ((compL l ++ List.replicate (n - (compL l).length) (⟨#[]⟩ : ByteArray)).map strRow))) := by
  subst hn; exact compact_strs s i l hi (by omega)
end Go.Pv
