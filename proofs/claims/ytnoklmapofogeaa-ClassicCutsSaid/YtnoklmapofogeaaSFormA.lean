import Derived.Test.YtnoklmapofogeaaSTy
import Derived.Ground.NamesProg
import Derived.Shelf.Slices.In.CompactS
import Derived.Shelf.Slices.In.SortAlone
import Derived.Shelf.Slices.In.SortNone
import Derived.Sort.EveryDepth
import Derived.Sort.Grow
import Derived.Lib.RowBridge
import Derived.Sort.Walk0
import Derived.Laws.RangeString
set_option linter.unusedVariables false
set_option linter.unusedSimpArgs false
set_option maxRecDepth 100000
set_option maxHeartbeats 4000000
namespace Go.Proofs
open Go.Shelf
def Try.laysSort_ren : Go.Shelf.Ren := ⟨fun | 190 => 122 | 125 => 142 | 258 => 141 | 128 => 174 | 129 => 175 | 302 => 165 | 303 => 166 | 304 => 167 | 305 => 168 | 306 => 169 | 307 => 170 | 308 => 171 | 309 => 172 | 310 => 173 | 333 => 179 | 329 => 180 | 330 => 181 | 334 => 182 | 335 => 183 | 336 => 184 | 344 => 188 | n => n, fun | 31 => 35 | 9 => 9 | 3 => 3 | 46 => 146 | 0 => 0 | 51 => 161 | 53 => 163 | 4 => 4 | 183 => 153 | 182 => 152 | 131 => 158 | 5 => 5 | 218 => 166 | 222 => 170 | 228 => 175 | 229 => 176 | n => n, fun | n => n⟩
theorem Try.laysSort : Go.Proofs.Lays.n190 Try.prog Try.laysSort_ren := {
 mixed := by kernel_rfl,
 f125 := Try.func142.trans (congrArg some (by kernel_rfl)),
 f128 := Try.func174.trans (congrArg some (by kernel_rfl)),
 f129 := Try.func175.trans (congrArg some (by kernel_rfl)),
 f190 := Try.func122.trans (congrArg some (by kernel_rfl)),
 f258 := Try.func141.trans (congrArg some (by kernel_rfl)),
 f302 := Try.func165.trans (congrArg some (by kernel_rfl)),
 f303 := Try.func166.trans (congrArg some (by kernel_rfl)),
 f304 := Try.func167.trans (congrArg some (by kernel_rfl)),
 f305 := Try.func168.trans (congrArg some (by kernel_rfl)),
 f306 := Try.func169.trans (congrArg some (by kernel_rfl)),
 f307 := Try.func170.trans (congrArg some (by kernel_rfl)),
 f308 := Try.func171.trans (congrArg some (by kernel_rfl)),
 f309 := Try.func172.trans (congrArg some (by kernel_rfl)),
 f310 := Try.func173.trans (congrArg some (by kernel_rfl)),
 f329 := Try.func180.trans (congrArg some (by kernel_rfl)),
 f330 := Try.func181.trans (congrArg some (by kernel_rfl)),
 f333 := Try.func179.trans (congrArg some (by kernel_rfl)),
 f334 := Try.func182.trans (congrArg some (by kernel_rfl)),
 f335 := Try.func183.trans (congrArg some (by kernel_rfl)),
 f336 := Try.func184.trans (congrArg some (by kernel_rfl)),
 f344 := Try.func188.trans (congrArg some (by kernel_rfl)),
 t0 := Try.underlying0,
 a0 := Try.isAgg0,
 z0 := Try.sizeOf0,
 v0 := Try.zeroValue0,
 t3 := Try.underlying3,
 a3 := Try.isAgg3,
 z3 := Try.sizeOf3,
 v3 := Try.zeroValue3,
 t4 := Try.underlying4,
 a4 := Try.isAgg4,
 z4 := Try.sizeOf4,
 v4 := Try.zeroValue4,
 t5 := Try.underlying5,
 a5 := Try.isAgg5,
 z5 := Try.sizeOf5,
 v5 := Try.zeroValue5,
 t9 := Try.underlying9,
 a9 := Try.isAgg9,
 z9 := Try.sizeOf9,
 v9 := Try.zeroValue9,
 t31 := Try.underlying35,
 a31 := Try.isAgg35,
 z31 := Try.sizeOf35,
 v31 := Try.zeroValue35,
 t46 := Try.underlying146,
 a46 := Try.isAgg146,
 z46 := Try.sizeOf146,
 v46 := Try.zeroValue146,
 t51 := Try.underlying161,
 a51 := Try.isAgg161,
 z51 := Try.sizeOf161,
 v51 := Try.zeroValue161,
 t53 := Try.underlying163,
 a53 := Try.isAgg163,
 z53 := Try.sizeOf163,
 v53 := Try.zeroValue163,
 t131 := Try.underlying158,
 a131 := Try.isAgg158,
 z131 := Try.sizeOf158,
 v131 := Try.zeroValue158,
 t182 := Try.underlying152,
 a182 := Try.isAgg152,
 z182 := Try.sizeOf152,
 v182 := Try.zeroValue152,
 t183 := Try.underlying153,
 a183 := Try.isAgg153,
 z183 := Try.sizeOf153,
 v183 := Try.zeroValue153,
 t218 := Try.underlying166,
 a218 := Try.isAgg166,
 z218 := Try.sizeOf166,
 v218 := Try.zeroValue166,
 t222 := Try.underlying170,
 a222 := Try.isAgg170,
 z222 := Try.sizeOf170,
 v222 := Try.zeroValue170,
 t228 := Try.underlying175,
 a228 := Try.isAgg175,
 z228 := Try.sizeOf175,
 v228 := Try.zeroValue175,
 t229 := Try.underlying176,
 a229 := Try.isAgg176,
 z229 := Try.sizeOf176,
 v229 := Try.zeroValue176 }
def Try.laysCompact_ren : Go.Shelf.Ren := ⟨fun | 194 => 123 | n => n, fun | 31 => 35 | 9 => 9 | 3 => 3 | 4 => 4 | 0 => 0 | n => n, fun | n => n⟩
theorem Try.laysCompact : Go.Proofs.Lays.n194 Try.prog Try.laysCompact_ren := {
 mixed := by kernel_rfl,
 f194 := Try.func123.trans (congrArg some (by kernel_rfl)),
 t0 := Try.underlying0,
 a0 := Try.isAgg0,
 z0 := Try.sizeOf0,
 v0 := Try.zeroValue0,
 t3 := Try.underlying3,
 a3 := Try.isAgg3,
 z3 := Try.sizeOf3,
 v3 := Try.zeroValue3,
 t4 := Try.underlying4,
 a4 := Try.isAgg4,
 z4 := Try.sizeOf4,
 v4 := Try.zeroValue4,
 t9 := Try.underlying9,
 a9 := Try.isAgg9,
 z9 := Try.sizeOf9,
 v9 := Try.zeroValue9,
 t31 := Try.underlying35,
 a31 := Try.isAgg35,
 z31 := Try.sizeOf35,
 v31 := Try.zeroValue35 }
end Go.Proofs
namespace Go.Pv
open Go Go.Sort Go.Proofs
set_option linter.unusedVariables false
set_option linter.unusedSimpArgs false
def ofL (x : List UInt8) : ByteArray := ⟨x.toArray⟩
def toL (b : ByteArray) : List UInt8 := b.data.toList
@[simp] theorem ofL_toL (b : ByteArray) : ofL (toL b) = b := by cases b; simp [ofL, toL]
@[simp] theorem toL_ofL (x : List UInt8) : toL (ofL x) = x := by simp [ofL, toL]
def sortL (l : List ByteArray) : List ByteArray := ((l.map toL).mergeSort fun x y => decide (x ≤ y)).map ofL
def compL (l : List ByteArray) : List ByteArray := (Lib.compact (l.map toL)).map ofL
theorem sortL_length (l : List ByteArray) : (sortL l).length = l.length := by simp [sortL, List.length_mergeSort]
theorem sortL_toL (l : List ByteArray) : (sortL l).map toL = (l.map toL).mergeSort fun x y => decide (x ≤ y) := by
 unfold sortL; rw [List.map_map]; exact (List.map_congr_left fun x _ => toL_ofL x).trans (List.map_id _)
theorem compL_toL (l : List ByteArray) : (compL l).map toL = Lib.compact (l.map toL) := by
 unfold compL; rw [List.map_map]; exact (List.map_congr_left fun x _ => toL_ofL x).trans (List.map_id _)
theorem compL_length (l : List ByteArray) : (compL l).length ≤ l.length := by
 have := Lib.compact_length_le (l.map toL)
 simpa [compL] using this
theorem mem_of_compact {zs : List (List UInt8)} {x : List UInt8} (h : x ∈ Lib.compact zs) : x ∈ zs := by
 unfold Lib.compact Lib.compactUpTo at h
 obtain ⟨j, hj, rfl⟩ := List.mem_map.1 h
 rw [List.mem_filter, List.mem_range] at hj
 rw [getElem!_pos _ _ (by simpa using hj.1)]; simp
section
variable {C : Ctx} {p : PHeap} {σ : Sig} {s : Store} {w : World}
theorem SR.grown (h : SR C p σ s w) (os : Array Obj) : SR C p σ s (Go.Sort.grow w os) := by
 have hold : ∀ b, b < w.heap.size → (w.heap ++ os)[b]? = w.heap[b]? := fun b hb => Array.getElem?_append_left hb
 exact {
  pubIn := fun b o hb => by
   have := h.pubIn b o hb
   show (w.heap ++ os)[b]? = _
   rw [hold b (by
    rcases Nat.lt_or_ge b w.heap.size with h1 | h1
    ·exact h1
    ·rw [Array.getElem?_eq_none h1] at this; cases this)]
   exact this
  obj := fun i o hi => (h.obj i o hi).mono PHeap.le.rfl' Sig.le.rfl' (fun l h1 h2 h3 => ⟨by
   show (w.heap ++ os)[l.b]? = _
   refine hold _ ?_
   exact (ObjOK.alive h.obj ⟨_, hi, h1, h2, h3⟩).2, rfl⟩)
  inj := h.inj
  sig := h.sig
  os := h.os
  tape := h.tape
  output := h.output
  size := by show _ ≤ (w.heap ++ os).size; rw [Array.size_append]; have := h.size; omega
  frame := fun b hb hd => by
   show (w.heap ++ os)[b]? = _ ∧ _
   rw [hold b (Nat.lt_of_lt_of_le hb h.size)]
   exact h.frame b hb hd
  own := h.own
  ple := h.ple
  sle := h.sle }
theorem putRow_eq {b o : Nat} {ca : Array Value} {ty : TypeId} (hb : w.heap[b]? = some (.cells ca ty (0, 0))) (zs : List ByteArray) (hsz : o + zs.length ≤ ca.size) :
  putRow encStr w b o (zs.map toL).toArray = { w with heap := w.heap.setIfInBounds b (.cells (spliceA ca o (zs.map Value.string)) ty (0, 0)) } := by
 unfold putRow mapBlock
 congr 1
 apply Array.ext_getElem?
 intro i
 rw [Array.getElem?_modify, Array.getElem?_setIfInBounds]
 by_cases hi : b = i
 ·subst hi
  rw [if_pos rfl, if_pos rfl, hb]
  have hlt : b < w.heap.size := by
   rcases Nat.lt_or_ge b w.heap.size with h1 | h1
   ·exact h1
   ·rw [Array.getElem?_eq_none h1] at hb; cases hb
  rw [if_pos hlt]
  simp only [Option.map_some, onCells]
  congr 2
  apply Array.ext_getElem?
  intro j
  rw [spliceA_get _ _ _ _ (by simpa using hsz)]
  simp only [putCells, Array.getElem?_mapIdx, List.size_toArray, List.length_map]
  by_cases hj : o ≤ j ∧ j < o + zs.length
  ·rw [if_pos hj]
   have hjc : j < ca.size := by omega
   rw [Array.getElem?_eq_getElem hjc]
   simp only [Option.map_some, if_pos hj]
   have hjz : j - o < zs.length := by omega
   rw [List.getElem?_map, List.getElem?_eq_getElem hjz]
   simp only [Option.map_some, Option.some.injEq]
   rw [getElem!_pos _ _ (by simpa using hjz)]
   simp only [List.getElem_toArray, List.getElem_map]
   show Value.string ⟨(toL _).toArray⟩ = _
   rw [show (⟨(toL zs[j - o]).toArray⟩ : ByteArray) = ofL (toL zs[j - o]) from rfl, ofL_toL]
  ·rw [if_neg hj]
   cases hc : ca[j]? with
   | none => rfl
   | some v => simp only [Option.map_some, if_neg hj]
 ·rw [if_neg hi, if_neg hi]
theorem SR.putStrs (h : SR C p σ s w) {i : Nat} {loc : Loc} {l l2 : List ByteArray} (hi : s[i]? = some (.rows 1 (l.map strRow))) (hσ : σ i = some loc) (hn : 0 < l.length) (hl : l2.length = l.length) (hok : ∀ b ∈ l2, b.size ≤ maxLen) :
  SR C p σ (s.set i (.rows 1 (l2.map strRow))) (putRow encStr w loc.b loc.o (l2.map toL).toArray) := by
 obtain ⟨hn', hle, ca, ty, hb, hsz, hR⟩ := h.rows hi hσ (by intro e; simp at e; subst e; simp at hn)
 obtain ⟨l', hl1, hl2, _⟩ := h.obj i _ hi
 rw [hσ] at hl1; cases hl1
 rw [List.length_map] at hle
 rw [hl2] at hsz hR
 rw [putRow_eq hb l2 (by omega)]
 have := h.putRows (off := 0) (ys := l2.map strRow) (vs := l2.map Value.string) hi hσ hn' hb (by rw [hl2]; exact hsz) (by simp [hl]) (by rw [hl2]; exact hR) (by simp [hl2]) (by
  rw [hl2]
  refine ⟨fun r row hr => ?_, fun r row j v c hr hj hc => ?_⟩
  ·rw [List.getElem?_map, Option.map_eq_some_iff] at hr
   obtain ⟨b, _, rfl⟩ := hr; rfl
  ·rw [List.getElem?_map, Option.map_eq_some_iff] at hr
   obtain ⟨b, hb2, rfl⟩ := hr
   obtain rfl : j = 0 := by have := lt_of_getElem? hj; simp [strRow] at this; omega
   simp only [strRow, List.getElem?_cons_zero, Option.some.injEq] at hj
   subst hj
   rw [Nat.zero_add, Nat.mul_one, Nat.add_zero, List.getElem?_toArray, List.getElem?_map, hb2] at hc
   simp only [Option.map_some, Option.some.injEq] at hc
   subst hc
   exact .str (hok b (List.mem_of_getElem? hb2)))
 rw [Nat.zero_mul, Nat.add_zero] at this
 have e : Pv.putRows (l.map strRow) (l2.map strRow) 0 = l2.map strRow := by
  simp [Pv.putRows, hl]
 rw [e] at this
 exact this
theorem holds_strs (h : Base p σ s w) {i : Nat} {loc : Loc} {l : List ByteArray} (hi : s[i]? = some (.rows 1 (l.map strRow))) (hσ : σ i = some loc) (hn : 0 < l.length) :
  Holds encStr w loc.b loc.o (l.map toL).toArray ∧ loc.b < w.heap.size ∧ ∀ b ∈ l, b.size ≤ maxLen := by
 have h := SR.start h
 obtain ⟨hn', hle, ca, ty, hb, hsz, hR⟩ := h.rows hi hσ (by intro e; simp at e; subst e; simp at hn)
 obtain ⟨l', hl1, hl2, _⟩ := h.obj i _ hi
 rw [hσ] at hl1; cases hl1
 rw [List.length_map] at hle
 rw [hl2] at hsz hR
 have hlt : loc.b < w.heap.size := by
  rcases Nat.lt_or_ge loc.b w.heap.size with h1 | h1
  ·exact h1
  ·rw [Array.getElem?_eq_none h1] at hb; cases hb
 have hcell : ∀ (j : Nat) (hj : j < l.length), ca[loc.o + j]? = some (.string l[j]) ∧ l[j].size ≤ maxLen := by
  intro j hj
  have hjc : loc.o + j < ca.size := by omega
  have := hR.rel j (strRow l[j]) 0 (.str l[j]) ca[loc.o + j] (by rw [List.getElem?_map, List.getElem?_eq_getElem hj]; rfl) rfl (by rw [Nat.mul_one, Nat.add_zero]; exact Array.getElem?_eq_getElem hjc)
  rw [Array.getElem?_eq_getElem hjc]
  generalize ca[loc.o + j] = c at this
  cases this with
  | str h => exact ⟨rfl, h⟩
 refine ⟨fun j hj => ?_, hlt, fun b hb => ?_⟩
 ·simp only [List.size_toArray, List.length_map] at hj
  obtain ⟨h1, _⟩ := hcell j hj
  refine ⟨?_, ?_⟩
  ·unfold World.cell?
   rw [hb]
   simp only [Option.isSome_none, Bool.false_eq_true, if_false]
   rw [h1, getElem!_pos _ _ (by simpa using hj)]
   simp only [List.getElem_toArray, List.getElem_map]
   show _ = some (Value.string (ofL (toL l[j])))
   rw [ofL_toL]
  ·unfold World.frozen?
   rw [hb]
   simp
 ·obtain ⟨j, hj, rfl⟩ := List.getElem_of_mem hb
  exact (hcell j hj).2
end
theorem set_same {s : Store} {i : Nat} {o : PObj} (h : s[i]? = some o) : s.set i o = s := by
 apply List.ext_getElem?
 intro j
 rw [List.getElem?_set]
 split
 ·subst_vars
  rw [if_pos (lt_of_getElem? h), h]
 ·rfl
theorem sort_strs (s : Store) (i : Nat) (l : List ByteArray) (hi : s[i]? = some (.rows 1 (l.map strRow))) (hl : l.length < 4611686018427387904) :
  CallOK Go.Proofs.Try.prog 122 [.sl i 0 l.length] s (.tuple []) (s.set i (.rows 1 ((sortL l).map strRow))) := by
 intro pub σ w cargs hb ha
 obtain ⟨c, rfl⟩ : ∃ c, cargs = #[c] := by
  have := ha.1
  match cargs, this with
  | ⟨[c]⟩, _ => exact ⟨c, rfl⟩
 have hr := ha.2 0 _ _ rfl rfl
 cases hr with
 | sl hσ hlen hcap ha2 =>
  rename_i loc ad cap
  by_cases h0 : l.length = 0
  ·have hle : l = [] := List.length_eq_zero_iff.1 h0
   subst hle
   refine Calls.mono (calls_of_every_depth fun D => AnyS.slices_Sort_string_none_alone Go.Proofs.Try.laysSort D ad cap w) ?_
   rintro e w' ⟨rfl, rfl⟩
   refine ⟨_, pub, σ, rfl, ?_, .tuple rfl fun j v c h => by simp at h⟩
   rw [show (sortL []).map strRow = [] from by simp [sortL], set_same (by simpa using hi)]
   exact SR.start hb
  ·obtain ⟨rfl, hn⟩ := ha2 (by omega)
   obtain ⟨hH, hlt, hmx⟩ := holds_strs hb hi hσ (by omega)
   rw [Nat.zero_mul, Nat.add_zero]
   have hc := calls_of_every_depth fun D => AnyS.slices_Sort_string_alone Go.Proofs.Try.laysSort D loc.b loc.o cap (l.map toL) w hH hlt (by simpa using hl)
   rw [List.length_map] at hc
   refine Calls.mono hc ?_
   rintro e w' ⟨rfl, n, os, rfl⟩
   refine ⟨_, pub, σ, rfl, ?_, .tuple rfl fun j v c h => by simp at h⟩
   rw [← sortL_toL]
   refine SR.grown ?_ os
   refine SR.putStrs (l := l) (l2 := sortL l) ((SR.start hb).drawn (w' := Go.Sort.ahead w n) rfl rfl rfl rfl) hi hσ (by omega) (sortL_length l) fun b hbm => ?_
   unfold sortL at hbm
   obtain ⟨x, hx, rfl⟩ := List.mem_map.1 hbm
   rw [List.mem_mergeSort] at hx
   obtain ⟨b, hb2, rfl⟩ := List.mem_map.1 hx
   rw [ofL_toL]
   exact hmx b hb2
theorem compact_strs (s : Store) (i : Nat) (l : List ByteArray) (hi : s[i]? = some (.rows 1 (l.map strRow))) (hl : l.length < 4611686018427387904) :
  CallOK Go.Proofs.Try.prog 123 [.sl i 0 l.length] s (.sl i 0 (compL l).length) (s.set i (.rows 1 ((compL l ++ List.replicate (l.length - (compL l).length) (⟨#[]⟩ : ByteArray)).map strRow))) := by
 intro pub σ w cargs hb ha
 obtain ⟨c, rfl⟩ : ∃ c, cargs = #[c] := by
  have := ha.1
  match cargs, this with
  | ⟨[c]⟩, _ => exact ⟨c, rfl⟩
 have hr := ha.2 0 _ _ rfl rfl
 cases hr with
 | sl hσ hlen hcap ha2 =>
  rename_i loc ad cap
  by_cases h0 : l.length = 0
  ·have hle : l = [] := List.length_eq_zero_iff.1 h0
   subst hle
   refine Calls.mono (calls_of_every_depth fun D => AnyS.slices_Compact_string_empty_in Go.Proofs.Try.laysCompact D ad cap w) ?_
   rintro e w' ⟨rfl, rfl⟩
   have hce : compL [] = [] := List.length_eq_zero_iff.1 (Nat.le_zero.1 (compL_length []))
   refine ⟨_, pub, σ, rfl, ?_, ?_⟩
   ·rw [hce]
    simp only [List.length_nil, Nat.sub_self, List.replicate_zero, List.append_nil, List.map_nil]
    rw [set_same (by simpa using hi)]
    exact SR.start hb
   ·rw [hce]; exact .sl hσ hlen hcap ha2
  ·obtain ⟨rfl, hn⟩ := ha2 (by omega)
   obtain ⟨hH, hlt, hmx⟩ := holds_strs hb hi hσ (by omega)
   rw [Nat.zero_mul, Nat.add_zero]
   have hc := calls_of_every_depth fun D => AnyS.slices_Compact_string_in Go.Proofs.Try.laysCompact D loc.b loc.o cap (l.map toL) w hH (by simp; omega) (by simpa using hlen)
   rw [List.length_map] at hc
   refine Calls.mono hc ?_
   rintro e w' ⟨rfl, n, rfl⟩
   have hcl : (Lib.compact (l.map toL)).length = (compL l).length := by simp [compL]
   rw [hcl]
   refine ⟨_, pub, σ, rfl, ?_, ?_⟩
   ·have he : Lib.compact (l.map toL) ++ List.replicate (l.length - (compL l).length) [] = (compL l ++ List.replicate (l.length - (compL l).length) (⟨#[]⟩ : ByteArray)).map toL := by
     rw [List.map_append, compL_toL]; simp [toL]
    rw [he]
    have hcle := compL_length l
    refine SR.putStrs ((SR.start hb).drawn (w' := Go.Sort.ahead w n) rfl rfl rfl rfl) hi hσ (by omega) (by simp; omega) fun b hbm => ?_
    rcases List.mem_append.1 hbm with hbm | hbm
    ·unfold compL at hbm
     obtain ⟨x, hx, rfl⟩ := List.mem_map.1 hbm
     have hx2 := mem_of_compact hx
     obtain ⟨b, hb2, rfl⟩ := List.mem_map.1 hx2
     rw [ofL_toL]
     exact hmx b hb2
    ·rw [List.mem_replicate] at hbm
     rw [hbm.2]; simp [maxLen]
   ·have hcle := compL_length l
    refine .sl hσ (by omega) hcap fun h => ⟨by rw [Nat.zero_mul, Nat.add_zero], hn⟩
theorem sort_strs' {s : Store} {i n : Nat} (l : List ByteArray) (hi : s[i]? = some (.rows 1 (l.map strRow))) (hn : l.length = n) (hl : n ≤ 1000000) :
  CallOK Go.Proofs.Try.prog 122 [.sl i 0 n] s (.tuple []) (s.set i (.rows 1 ((sortL l).map strRow))) := by
 subst hn; exact sort_strs s i l hi (by omega)
theorem compact_strs' {s : Store} {i n : Nat} (l : List ByteArray) (hi : s[i]? = some (.rows 1 (l.map strRow))) (hn : l.length = n) (hl : n ≤ 1000000) :
  CallOK Go.Proofs.Try.prog 123 [.sl i 0 n] s (.sl i 0 (compL l).length) (s.set i (.rows 1 ((compL l ++ List.replicate (n - (compL l).length) (⟨#[]⟩ : ByteArray)).map strRow))) := by
 subst hn; exact compact_strs s i l hi (by omega)
end Go.Pv
namespace Go.Pv
open Go Go.Lib
def Ris (l : List ByteArray) : Prop := l.Pairwise fun a b => toL a < toL b
theorem toL_inj {a b : ByteArray} (h : toL a = toL b) : a = b := by rw [← ofL_toL a, ← ofL_toL b, h]
theorem lt_tri (a b : List UInt8) : a < b ∨ a = b ∨ b < a := by
 rcases List.le_total a b with h | h
 ·by_cases e : a = b
  ·exact .inr (.inl e)
  ·exact .inl (Decidable.byContradiction fun hn => e (List.le_antisymm h (List.not_lt.1 hn)))
 ·by_cases e : a = b
  ·exact .inr (.inl e)
  ·exact .inr (.inr (Decidable.byContradiction fun hn => e (List.le_antisymm (List.not_lt.1 hn) h)))
theorem lt_irr (a : List UInt8) : ¬ a < a := List.lt_irrefl a
theorem lt_tr {a b c : List UInt8} (h : a < b) (g : b < c) : a < c := List.lt_trans h g
theorem ris_unique : ∀ {l l2 : List ByteArray}, Ris l → Ris l2 → (∀ x, x ∈ l ↔ x ∈ l2) → l = l2
 | [], [], _, _, _ => rfl
 | [], b :: r, _, _, h => by have := (h b).2 List.mem_cons_self; cases this
 | a :: r, [], _, _, h => by have := (h a).1 List.mem_cons_self; cases this
 | a :: r, b :: r2, h1, h2, h => by
  unfold Ris at h1 h2
  rw [List.pairwise_cons] at h1 h2
  have hab : a = b := by
   rcases List.mem_cons.1 ((h a).1 List.mem_cons_self) with e | e
   ·exact e
   ·rcases List.mem_cons.1 ((h b).2 List.mem_cons_self) with e2 | e2
    ·exact e2.symm
    ·exact absurd (lt_tr (h1.1 b e2) (h2.1 a e)) (lt_irr _)
  subst hab
  rw [ris_unique h1.2 h2.2 fun x => ?_]
  constructor
  ·intro hx
   rcases List.mem_cons.1 ((h x).1 (List.mem_cons_of_mem _ hx)) with e | e
   ·subst e; exact absurd (h1.1 x hx) (lt_irr _)
   ·exact e
  ·intro hx
   rcases List.mem_cons.1 ((h x).2 (List.mem_cons_of_mem _ hx)) with e | e
   ·subst e; exact absurd (h2.1 x hx) (lt_irr _)
   ·exact e
theorem comp_upTo (zs : List (List UInt8)) (hs : zs.Pairwise fun a b => a ≤ b) : ∀ m, m ≤ zs.length → (∀ x, x ∈ compactUpTo zs.toArray m ↔ x ∈ zs.take m) ∧ (compactUpTo zs.toArray m).Pairwise fun a b => a < b := by
 intro m
 induction m with
 | zero => intro _; simp [compactUpTo]
 | succ m ih =>
  intro hm
  obtain ⟨h1, h2⟩ := ih (by omega)
  have hml : m < zs.length := by omega
  have hget : zs.toArray[m]! = zs[m] := by rw [getElem!_pos _ _ (by simpa using hml)]; simp
  rw [compactUpTo_succ, List.take_add_one, List.getElem?_eq_getElem hml]
  simp only [Option.toList]
  have hord : ∀ i j (hi : i < zs.length) (hj : j < zs.length), i < j → zs[i] ≤ zs[j] := fun i j hi hj hij => List.pairwise_iff_getElem.1 hs i j hi hj hij
  by_cases hk : keeps zs.toArray m = true
  ·rw [if_pos hk, hget]
   refine ⟨fun x => by rw [List.mem_append, List.mem_append, h1], ?_⟩
   rw [List.pairwise_append]
   refine ⟨h2, List.pairwise_singleton _ _, fun a ha b hb => ?_⟩
   rw [List.mem_singleton] at hb
   subst hb
   rw [h1] at ha
   obtain ⟨i, hi, rfl⟩ := List.getElem_of_mem ha
   rw [List.length_take] at hi
   rw [List.getElem_take]
   have hle := hord i m (by omega) hml (by omega)
   rcases lt_tri zs[i] zs[m] with h | h | h
   ·exact h
   ·exfalso
    simp only [keeps, decide_eq_true_eq] at hk
    rcases hk with hk | hk
    ·omega
    ·rw [hget, getElem!_pos _ _ (by simp; omega)] at hk
     simp only [List.getElem_toArray] at hk
     apply hk
     have g1 := hord (m - 1) m (by omega) hml (by omega)
     by_cases e : i = m - 1
     ·subst e; exact h.symm
     ·have g2 := hord i (m - 1) (by omega) (by omega) (by omega)
      rw [h] at g2
      exact List.le_antisymm g2 g1
   ·exact absurd h (List.not_lt.2 hle)
  ·rw [if_neg hk, List.append_nil]
   refine ⟨fun x => ?_, h2⟩
   rw [h1, List.mem_append, List.mem_singleton]
   constructor
   ·exact .inl
   ·rintro (h | rfl)
    ·exact h
    ·simp only [keeps, decide_eq_true_eq, not_or, Decidable.not_not] at hk
     obtain ⟨h0, hk⟩ := hk
     rw [hget, getElem!_pos _ _ (by simp; omega)] at hk
     simp only [List.getElem_toArray] at hk
     rw [hk]
     rw [List.mem_take_iff_getElem]
     exact ⟨m - 1, by omega, rfl⟩
theorem comp_ok (l : List ByteArray) : Ris (compL (sortL l)) ∧ ∀ x, x ∈ compL (sortL l) ↔ x ∈ l := by
 have hs : ((sortL l).map toL).Pairwise fun a b => a ≤ b := by
  rw [sortL_toL]
  have := List.pairwise_mergeSort (le := fun x y : List UInt8 => decide (x ≤ y)) (fun a b c h1 h2 => by simpa using List.le_trans (by simpa using h1) (by simpa using h2)) (fun a b => by simpa using List.le_total a b) (l.map toL)
  simpa using this
 obtain ⟨h1, h2⟩ := comp_upTo _ hs ((sortL l).map toL).length (Nat.le_refl _)
 constructor
 ·unfold Ris compL
  rw [List.pairwise_map]
  refine h2.imp fun h => ?_
  rw [toL_ofL, toL_ofL]; exact h
 ·intro x
  unfold compL
  rw [List.mem_map]
  constructor
  ·rintro ⟨y, hy, rfl⟩
   have := (h1 y).1 hy
   rw [List.take_length, sortL_toL, List.mem_mergeSort, List.mem_map] at this
   obtain ⟨b, hb, rfl⟩ := this
   rw [ofL_toL]; exact hb
  ·intro hx
   refine ⟨toL x, (h1 _).2 ?_, ofL_toL x⟩
   rw [List.take_length, sortL_toL, List.mem_mergeSort]
   exact List.mem_map.2 ⟨x, hx, rfl⟩
def insAt (l : List ByteArray) (x : ByteArray) : Nat := (l.takeWhile fun y => decide (toL y < toL x)).length
def inB (x : ByteArray) (l : List ByteArray) : Bool := l.any fun y => decide (x = y)
theorem inB_iff {x : ByteArray} {l : List ByteArray} : inB x l = true ↔ x ∈ l := by simp [inB]
def insR (l : List ByteArray) (x : ByteArray) : List ByteArray := if inB x l = true then l else l.take (insAt l x) ++ x :: l.drop (insAt l x)
theorem insR_mem {l : List ByteArray} {x y : ByteArray} : y ∈ insR l x ↔ y ∈ l ∨ y = x := by
 unfold insR
 split
 ·rename_i h
  rw [inB_iff] at h
  exact ⟨.inl, fun g => g.elim id fun e => e ▸ h⟩
 ·have : y ∈ l.take (insAt l x) ++ l.drop (insAt l x) ↔ y ∈ l := by rw [List.take_append_drop]
  rw [List.mem_append] at this ⊢
  rw [List.mem_cons, ← this]
  constructor
  ·rintro (h | h | h)
   ·exact .inl (.inl h)
   ·exact .inr h
   ·exact .inl (.inr h)
  ·rintro ((h | h) | h)
   ·exact .inl h
   ·exact .inr (.inr h)
   ·exact .inr (.inl h)
theorem ins_split : ∀ (l : List ByteArray) (x : ByteArray), Ris l → x ∉ l → Ris (l.take (insAt l x) ++ x :: l.drop (insAt l x))
 | [], x, _, _ => by simp [insAt, Ris]
 | a :: r, x, h, hx => by
  unfold Ris at h
  rw [List.pairwise_cons] at h
  rw [List.mem_cons, not_or] at hx
  unfold insAt
  rw [List.takeWhile_cons]
  by_cases ha : toL a < toL x
  ·rw [if_pos (by simpa using ha), List.length_cons, List.take_succ_cons, List.drop_succ_cons, List.cons_append]
   have ih := ins_split r x h.2 hx.2
   unfold Ris at ih ⊢
   unfold insAt at ih
   rw [List.pairwise_cons]
   refine ⟨fun y hy => ?_, ih⟩
   have hy2 : y ∈ insR r x := by unfold insR insAt; rw [if_neg (fun h => hx.2 (inB_iff.1 h))]; exact hy
   rcases insR_mem.1 hy2 with g | g
   ·exact h.1 y g
   ·subst g; exact ha
  ·rw [if_neg (by simpa using ha), List.length_nil, List.take_zero, List.drop_zero, List.nil_append]
   unfold Ris
   have hxa : toL x < toL a := by
    rcases lt_tri (toL a) (toL x) with g | g | g
    ·exact absurd g ha
    ·exact absurd (toL_inj g).symm hx.1
    ·exact g
   rw [List.pairwise_cons, List.pairwise_cons]
   refine ⟨fun y hy => ?_, h.1, h.2⟩
   rcases List.mem_cons.1 hy with g | g
   ·subst g; exact hxa
   ·exact lt_tr hxa (h.1 y g)
theorem insR_ris {l : List ByteArray} {x : ByteArray} (h : Ris l) : Ris (insR l x) := by
 unfold insR
 split
 ·exact h
 ·rename_i hx; exact ins_split l x h fun g => hx (inB_iff.2 g)
theorem ins_all : ∀ (ns l : List ByteArray), Ris l → Ris (ns.foldl insR l) ∧ ∀ x, x ∈ ns.foldl insR l ↔ x ∈ l ∨ x ∈ ns
 | [], l, h => ⟨h, fun x => by simp⟩
 | n :: ns, l, h => by
  obtain ⟨h1, h2⟩ := ins_all ns (insR l n) (insR_ris h)
  refine ⟨h1, fun x => ?_⟩
  rw [List.foldl_cons, h2, insR_mem, List.mem_cons]
  constructor
  ·rintro ((g | g) | g)
   ·exact .inl g
   ·exact .inr (.inl g)
   ·exact .inr (.inr g)
  ·rintro (g | g | g)
   ·exact .inl (.inl g)
   ·exact .inl (.inr g)
   ·exact .inr g
theorem insAt_le (l : List ByteArray) (x : ByteArray) : insAt l x ≤ l.length := (List.takeWhile_sublist _).length_le
theorem insAt_lt : ∀ (l : List ByteArray) (x : ByteArray) (i : Nat), i < insAt l x → ∃ h : i < l.length, toL l[i] < toL x
 | [], x, i, h => by simp [insAt] at h
 | a :: r, x, i, h => by
  unfold insAt at h
  rw [List.takeWhile_cons] at h
  split at h
  ·rename_i ha
   cases i with
   | zero => exact ⟨by simp, by simpa using ha⟩
   | succ i =>
    rw [List.length_cons] at h
    obtain ⟨h1, h2⟩ := insAt_lt r x i (by unfold insAt; omega)
    exact ⟨by simpa using h1, by simpa using h2⟩
  ·simp at h
theorem insAt_at : ∀ (l : List ByteArray) (x : ByteArray) (h : insAt l x < l.length), ¬ toL l[insAt l x] < toL x
 | [], x, h => by simp at h
 | a :: r, x, h => by
  by_cases ha : toL a < toL x
  ·have e : insAt (a :: r) x = insAt r x + 1 := by unfold insAt; rw [List.takeWhile_cons, if_pos (by simpa using ha)]; rfl
   simp only [e, List.getElem_cons_succ]
   exact insAt_at r x (by rw [e] at h; simpa using h)
  ·have e : insAt (a :: r) x = 0 := by unfold insAt; rw [List.takeWhile_cons, if_neg (by simpa using ha)]; rfl
   simp only [e, List.getElem_cons_zero]
   exact ha
theorem insR_len (l : List ByteArray) (x : ByteArray) : (insR l x).length ≤ l.length + 1 := by
 unfold insR; split
 ·omega
 ·simp; omega
theorem ins_len : ∀ (ns l : List ByteArray), (ns.foldl insR l).length ≤ l.length + ns.length
 | [], l => by simp
 | n :: ns, l => by
  have h1 := ins_len ns (insR l n)
  have h2 := insR_len l n
  rw [List.foldl_cons, List.length_cons]; omega
theorem comp_ins (ns : List ByteArray) : compL (sortL ns) = ns.foldl insR [] := by
 obtain ⟨h1, h2⟩ := comp_ok ns
 obtain ⟨h3, h4⟩ := ins_all ns [] (by simp [Ris])
 exact ris_unique h1 h3 fun x => by rw [h2, h4]; simp
end Go.Pv
namespace Go.Proofs.Ytnoklmapofogeaa
open Go Go.Pv
theorem fault_formula (c a : Int) (s : Store) : CallOK Try.prog 138 [.int .i64 c, .int .i64 a] s (.agg [.int .i64 c, .int .i64 a]) s := by
 refine CallOK.frame ?_ ?_
 ·refine callOK_of Try.func138 rfl rfl Try.ntmps138 (by simp) ?_
  rw [Try.results138]
  dsimp only [light, regL, dsts, lopsL, lop, nth]
  (have F_ := True.intro); repeat' (first | (with_reducible refine stp ?_) | (with_reducible refine hq _ _ ?_; clear hq q) | (with_reducible refine hk _ _ ?_; clear hk k) | (with_reducible refine EvL.regA (fun k hk => ?_)) | ((with_reducible apply WOps.call); (· fail)) | (with_reducible refine WOps.auto F_ (fun q hq => ?_)) | ((with_reducible refine EvL.condA ?_ ?_); all_goals (intro h <;> (try simp only [hna, hnb, hnc, ne_eq, reduceCtorEq, Int.reduceEq, gt_iff_lt, ge_iff_le] at h) <;> (try (exfalso; omega; done)))) | (with_reducible refine EvL.drawnA (fun k hk => ?_)) | (with_reducible refine EvL.mixA (fun k hk => ?_)) | (with_reducible refine EvL.mix2A (fun k hk => ?_)) | (with_reducible refine WMix.bothA F_ ?_ ?_) | (with_reducible refine WOps.takeA ?_) | (with_reducible refine WOps.passA ?_) | ((with_reducible refine WOps.splitA ?_ ?_); all_goals (intro h <;> simp only [h] <;> (try simp only [hna, hnb, hnc, ne_eq, reduceCtorEq, Int.reduceEq, gt_iff_lt, ge_iff_le] at h) <;> (try (exfalso; omega; done)))) | (with_reducible refine WMix.takeA ?_) | (with_reducible refine WMix.passA ?_) | (with_reducible refine WMix.consA F_ ?_) | (with_reducible refine WMix.makeA F_ ?_) | ((with_reducible refine And.intro ?_ ?_); (· omega)) | ((with_reducible refine And.intro (fun h => ?_) (fun h => ?_)) <;> (try simp only [Decidable.not_not] at h) <;> (try simp only [h])) | (with_reducible intro hl))
  (refine finA ?_; try exact trivial)
 ·simp [flat_int, Flat.closed]
def kidsN (n : Int) : Int := if n = 1 ∨ n = 2 ∨ n = 3 then 0 else if n = 4 ∨ n = 8 ∨ n = 9 then 1 else if n = 5 ∨ n = 6 ∨ n = 7 then 2 else -1
theorem kids_formula (n : Int) (s : Store) : CallOK Try.prog 137 [.int .i64 n] s (.int .i64 (kidsN n)) s := by
 refine CallOK.frame ?_ ?_
 ·refine callOK_of Try.func137 rfl rfl Try.ntmps137 (by simp) ?_
  rw [Try.results137]
  dsimp only [light, regL, dsts, lopsL, lop, nth]
  (have F_ := True.intro); repeat' (first | (with_reducible refine stp ?_) | (with_reducible refine hq _ _ ?_; clear hq q) | (with_reducible refine hk _ _ ?_; clear hk k) | (with_reducible refine EvL.regA (fun k hk => ?_)) | ((with_reducible apply WOps.call); (· fail)) | (with_reducible refine WOps.auto F_ (fun q hq => ?_)) | ((with_reducible refine EvL.condA ?_ ?_); all_goals (intro h <;> (try simp only [hna, hnb, hnc, ne_eq, reduceCtorEq, Int.reduceEq, gt_iff_lt, ge_iff_le] at h) <;> (try (exfalso; omega; done)))) | (with_reducible refine EvL.drawnA (fun k hk => ?_)) | (with_reducible refine EvL.mixA (fun k hk => ?_)) | (with_reducible refine EvL.mix2A (fun k hk => ?_)) | (with_reducible refine WMix.bothA F_ ?_ ?_) | (with_reducible refine WOps.takeA ?_) | (with_reducible refine WOps.passA ?_) | ((with_reducible refine WOps.splitA ?_ ?_); all_goals (intro h <;> simp only [h] <;> (try simp only [hna, hnb, hnc, ne_eq, reduceCtorEq, Int.reduceEq, gt_iff_lt, ge_iff_le] at h) <;> (try (exfalso; omega; done)))) | (with_reducible refine WMix.takeA ?_) | (with_reducible refine WMix.passA ?_) | (with_reducible refine WMix.consA F_ ?_) | (with_reducible refine WMix.makeA F_ ?_) | ((with_reducible refine And.intro ?_ ?_); (· omega)) | ((with_reducible refine And.intro (fun h => ?_) (fun h => ?_)) <;> (try simp only [Decidable.not_not] at h) <;> (try simp only [h])) | (with_reducible intro hl))
  all_goals
   refine ⟨trivial, ?_⟩
   simp only [WRes, Env.upd, reduceIte, Nat.reduceEqDiff]
   refine RetView.done 6 ?_
   simp only [deref, retV, PV.int.injEq, true_and]
   unfold kidsN
   omega
 ·simp [flat_int, Flat.closed]
def letterB (b : UInt8) : Bool := decide (97 ≤ b.toNat ∧ b.toNat ≤ 122)
def isNameB (s : ByteArray) : Bool := decide (1 ≤ s.size ∧ s.size ≤ 8) && s.data.toList.all letterB
theorem decode_high (s : ByteArray) (i : Nat) (h : i < s.size) (hb : 128 ≤ s[i].toNat) : 128 ≤ (Utf8.decode s i).1 := by
 have hg : (s.get! (i + 0)).toNat = s[i].toNat := by
  rw [Nat.add_zero]
  show (s.data[i]!).toNat = _
  rw [getElem!_pos s.data i h]; rfl
 unfold Utf8.decode
 simp only [hg, Utf8.runeError]
 rw [if_neg (by omega)]
 split
 ·split
  ·assumption
  ·decide
 ·split
  ·split
   ·rename_i h1; simp only [Bool.and_eq_true, decide_eq_true_eq] at h1; omega
   ·decide
  ·split
   ·split
    ·rename_i h1; simp only [Bool.and_eq_true, decide_eq_true_eq] at h1; omega
    ·decide
   ·decide
theorem decode_letter (s : ByteArray) (i : Nat) (h : i < s.size) : (letterB s[i] = true → Utf8.decode s i = (s[i].toNat, 1)) ∧ (letterB s[i] = false → (Utf8.decode s i).1 < 97 ∨ 122 < (Utf8.decode s i).1) := by
 refine ⟨fun hl => ?_, fun hl => ?_⟩
 ·simp only [letterB, decide_eq_true_eq] at hl
  exact decode_ascii s i h (by omega)
 ·simp only [letterB, decide_eq_false_iff_not] at hl
  by_cases hb : s[i].toNat < 128
  ·rw [decode_ascii s i h hb]; simp only; omega
  ·have := decode_high s i h (by omega); omega
theorem all_letter (s : ByteArray) : s.data.toList.all letterB = true ↔ ∀ i (h : i < s.size), letterB s[i] = true := by
 rw [List.all_eq_true]
 constructor
 ·intro h i hi; exact h _ (by simp [ByteArray.getElem_eq_getElem_data])
 ·intro h b hb
  obtain ⟨i, hi, rfl⟩ := List.mem_iff_getElem.1 hb
  exact h i (by simpa using hi)
theorem letter_of_decode (t : ByteArray) (i : Nat) (hi : i < t.size) (h1 : 97 ≤ ((Utf8.decode t i).1 : Int)) (h2 : ((Utf8.decode t i).1 : Int) ≤ 122) : letterB t[i] = true := by
 cases hb : letterB t[i] with
 | true => rfl
 | false => have := (decode_letter t i hi).2 hb; omega
theorem no_name (t : ByteArray) (i : Nat) (hi : i < t.size) (h : ((Utf8.decode t i).1 : Int) < 97 ∨ 122 < ((Utf8.decode t i).1 : Int)) : isNameB t = false := by
 have h1 : letterB t[i] = false := by
  cases hb : letterB t[i] with
  | false => rfl
  | true =>
   have := (decode_letter t i hi).1 hb
   simp only [letterB, decide_eq_true_eq] at hb
   rw [this] at h; simp only at h; omega
 have h2 : ¬ t.data.toList.all letterB = true := by
  rw [all_letter]; intro h3; rw [h3 i hi] at h1; cases h1
 simp [isNameB, h2]
theorem isName_formula (t : ByteArray) (s : Store) : CallOK Try.prog 80 [.str t] s (.bool (isNameB t)) s := by
 refine CallOK.frame ?_ ?_
 ·refine callOK_of Try.func80 rfl rfl Try.ntmps80 (by simp) ?_
  rw [Try.results80]
  dsimp only [light, regL, dsts, lopsL, lop, nth]
  (have F_ := True.intro); repeat' (first | (with_reducible refine stp ?_) | (with_reducible refine hq _ _ ?_; clear hq q) | (with_reducible refine hk _ _ ?_; clear hk k) | (with_reducible refine EvL.regA (fun k hk => ?_)) | ((with_reducible apply WOps.call); (· fail)) | (with_reducible refine WOps.auto F_ (fun q hq => ?_)) | ((with_reducible refine EvL.condA ?_ ?_); all_goals (intro h <;> (try simp only [hna, hnb, hnc, ne_eq, reduceCtorEq, Int.reduceEq, gt_iff_lt, ge_iff_le] at h) <;> (try (exfalso; omega; done)))) | (with_reducible refine EvL.drawnA (fun k hk => ?_)) | (with_reducible refine EvL.mixA (fun k hk => ?_)) | (with_reducible refine EvL.mix2A (fun k hk => ?_)) | (with_reducible refine WMix.bothA F_ ?_ ?_) | (with_reducible refine WOps.takeA ?_) | (with_reducible refine WOps.passA ?_) | ((with_reducible refine WOps.splitA ?_ ?_); all_goals (intro h <;> simp only [h] <;> (try simp only [hna, hnb, hnc, ne_eq, reduceCtorEq, Int.reduceEq, gt_iff_lt, ge_iff_le] at h) <;> (try (exfalso; omega; done)))) | (with_reducible refine WMix.takeA ?_) | (with_reducible refine WMix.passA ?_) | (with_reducible refine WMix.consA F_ ?_) | (with_reducible refine WMix.makeA F_ ?_) | ((with_reducible refine And.intro ?_ ?_); (· omega)) | ((with_reducible refine And.intro (fun h => ?_) (fun h => ?_)) <;> (try simp only [Decidable.not_not] at h) <;> (try simp only [h])) | (with_reducible intro hl))
  all_goals first | ((refine finA ?_; try exact trivial); simp [isNameB]; omega; done) | skip
  ·refine EvL.loop (X := Nat) (fun i => [(0, .str t), (14, .ptr 0 0 0)]) (fun i => [.iter t i]) (fun i => i ≤ t.size ∧ ∀ j (h : j < t.size), j < i → letterB t[j] = true) (fun i => t.size - i) 0 ⟨by omega, fun j _ h => by omega⟩
    (View.of [0] _ (by simp) (by decide) (by (refine vw ?_; try exact trivial)) (by (refine vw ?_; try exact trivial))) (fun i hi => ?_)
   (have F_ := True.intro); repeat' (first | (with_reducible refine stp ?_) | (with_reducible refine hq _ _ ?_; clear hq q) | (with_reducible refine hk _ _ ?_; clear hk k) | (with_reducible refine EvL.regA (fun k hk => ?_)) | ((with_reducible apply WOps.call); (· fail)) | (with_reducible refine WOps.auto F_ (fun q hq => ?_)) | ((with_reducible refine EvL.condA ?_ ?_); all_goals (intro h <;> (try simp only [hna, hnb, hnc, ne_eq, reduceCtorEq, Int.reduceEq, gt_iff_lt, ge_iff_le] at h) <;> (try (exfalso; omega; done)))) | (with_reducible refine EvL.drawnA (fun k hk => ?_)) | (with_reducible refine EvL.mixA (fun k hk => ?_)) | (with_reducible refine EvL.mix2A (fun k hk => ?_)) | (with_reducible refine WMix.bothA F_ ?_ ?_) | (with_reducible refine WOps.takeA ?_) | (with_reducible refine WOps.passA ?_) | ((with_reducible refine WOps.splitA ?_ ?_); all_goals (intro h <;> simp only [h] <;> (try simp only [hna, hnb, hnc, ne_eq, reduceCtorEq, Int.reduceEq, gt_iff_lt, ge_iff_le] at h) <;> (try (exfalso; omega; done)))) | (with_reducible refine WMix.takeA ?_) | (with_reducible refine WMix.passA ?_) | (with_reducible refine WMix.consA F_ ?_) | (with_reducible refine WMix.makeA F_ ?_) | ((with_reducible refine And.intro ?_ ?_); (· omega)) | ((with_reducible refine And.intro (fun h => ?_) (fun h => ?_)) <;> (try simp only [Decidable.not_not] at h) <;> (try simp only [h])) | (with_reducible intro hl))
   all_goals first | ((refine finA ?_; try exact trivial); rw [no_name t i ‹_› (by omega)]; done) | skip
   ·have h1 : letterB t[i] = true := letter_of_decode t i ‹_› (by omega) (by omega)
    have h2 := (decode_letter t i ‹_›).1 h1
    rw [h2]
    refine ⟨i + 1, ⟨by omega, fun j hj hji => ?_⟩, by omega, View.of [0] _ (by simp) (by decide) (by (refine vw ?_; try exact trivial)) (by (refine vw ?_; try exact trivial))⟩
    by_cases e : j = i
    ·subst e; exact h1
    ·exact hi.2 j hj (by omega)
   ·(refine finA ?_; try exact trivial)
    have h2 : t.data.toList.all letterB = true := by
     rw [all_letter]; intro j hj; exact hi.2 j hj (by omega)
    simp [isNameB, h2]; omega
 ·simp [flat_str, Flat.closed]
end Go.Proofs.Ytnoklmapofogeaa
