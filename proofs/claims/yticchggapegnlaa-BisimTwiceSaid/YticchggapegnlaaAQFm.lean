import Derived.Test.YticchggapegnlaaATy
import Derived.Ground.NamesProg
import Derived.Shelf.Slices.In.CompactS
import Derived.Shelf.Slices.In.SortAlone
import Derived.Shelf.Slices.In.SortNone
import Derived.Sort.EveryDepth
import Derived.Sort.Grow
import Derived.Lib.RowBridge
import Derived.Ground.Names2Prog
import Derived.Shelf.Slices.In.CompactI
import Derived.Laws.RangeString
set_option linter.unusedVariables false
set_option linter.unusedSimpArgs false
set_option maxRecDepth 100000
set_option maxHeartbeats 4000000
namespace Go.Proofs
open Go.Shelf
def Try.laysSort_ren : Go.Shelf.Ren := ⟨fun | 190 => 48 | 125 => 59 | 258 => 58 | 128 => 72 | 129 => 73 | 302 => 63 | 303 => 64 | 304 => 65 | 305 => 66 | 306 => 67 | 307 => 68 | 308 => 69 | 309 => 70 | 310 => 71 | 333 => 83 | 329 => 84 | 330 => 85 | 334 => 86 | 335 => 87 | 336 => 88 | 344 => 93 | n => n,fun | 31 => 62 | 9 => 9 | 3 => 3 | 46 => 88 | 0 => 0 | 51 => 103 | 53 => 105 | 4 => 4 | 183 => 95 | 182 => 94 | 131 => 100 | 5 => 5 | 218 => 111 | 222 => 115 | 228 => 120 | 229 => 121 | n => n,fun | n => n⟩
theorem Try.laysSort : Go.Proofs.Lays.n190 Try.prog Try.laysSort_ren := {
 mixed := by kernel_rfl,
 f125 := Try.func59.trans (congrArg some (by kernel_rfl)),
 f128 := Try.func72.trans (congrArg some (by kernel_rfl)),
 f129 := Try.func73.trans (congrArg some (by kernel_rfl)),
 f190 := Try.func48.trans (congrArg some (by kernel_rfl)),
 f258 := Try.func58.trans (congrArg some (by kernel_rfl)),
 f302 := Try.func63.trans (congrArg some (by kernel_rfl)),
 f303 := Try.func64.trans (congrArg some (by kernel_rfl)),
 f304 := Try.func65.trans (congrArg some (by kernel_rfl)),
 f305 := Try.func66.trans (congrArg some (by kernel_rfl)),
 f306 := Try.func67.trans (congrArg some (by kernel_rfl)),
 f307 := Try.func68.trans (congrArg some (by kernel_rfl)),
 f308 := Try.func69.trans (congrArg some (by kernel_rfl)),
 f309 := Try.func70.trans (congrArg some (by kernel_rfl)),
 f310 := Try.func71.trans (congrArg some (by kernel_rfl)),
 f329 := Try.func84.trans (congrArg some (by kernel_rfl)),
 f330 := Try.func85.trans (congrArg some (by kernel_rfl)),
 f333 := Try.func83.trans (congrArg some (by kernel_rfl)),
 f334 := Try.func86.trans (congrArg some (by kernel_rfl)),
 f335 := Try.func87.trans (congrArg some (by kernel_rfl)),
 f336 := Try.func88.trans (congrArg some (by kernel_rfl)),
 f344 := Try.func93.trans (congrArg some (by kernel_rfl)),
 t0 := Try.underlying0,
 a0 := Try.isAgg0,
 z0 := Try.sizeOf0,
 v0 := Try.zeroValue0,
 t3 := Try.underlying3,
 a3 := Try.isAgg3,
 z3 := Try.sizeOf3,
 v3 := Try.zeroValue3,
 t4 := Try.underlying4,
 a4 := Try.isAgg4,
 z4 := Try.sizeOf4,
 v4 := Try.zeroValue4,
 t5 := Try.underlying5,
 a5 := Try.isAgg5,
 z5 := Try.sizeOf5,
 v5 := Try.zeroValue5,
 t9 := Try.underlying9,
 a9 := Try.isAgg9,
 z9 := Try.sizeOf9,
 v9 := Try.zeroValue9,
 t31 := Try.underlying62,
 a31 := Try.isAgg62,
 z31 := Try.sizeOf62,
 v31 := Try.zeroValue62,
 t46 := Try.underlying88,
 a46 := Try.isAgg88,
 z46 := Try.sizeOf88,
 v46 := Try.zeroValue88,
 t51 := Try.underlying103,
 a51 := Try.isAgg103,
 z51 := Try.sizeOf103,
 v51 := Try.zeroValue103,
 t53 := Try.underlying105,
 a53 := Try.isAgg105,
 z53 := Try.sizeOf105,
 v53 := Try.zeroValue105,
 t131 := Try.underlying100,
 a131 := Try.isAgg100,
 z131 := Try.sizeOf100,
 v131 := Try.zeroValue100,
 t182 := Try.underlying94,
 a182 := Try.isAgg94,
 z182 := Try.sizeOf94,
 v182 := Try.zeroValue94,
 t183 := Try.underlying95,
 a183 := Try.isAgg95,
 z183 := Try.sizeOf95,
 v183 := Try.zeroValue95,
 t218 := Try.underlying111,
 a218 := Try.isAgg111,
 z218 := Try.sizeOf111,
 v218 := Try.zeroValue111,
 t222 := Try.underlying115,
 a222 := Try.isAgg115,
 z222 := Try.sizeOf115,
 v222 := Try.zeroValue115,
 t228 := Try.underlying120,
 a228 := Try.isAgg120,
 z228 := Try.sizeOf120,
 v228 := Try.zeroValue120,
 t229 := Try.underlying121,
 a229 := Try.isAgg121,
 z229 := Try.sizeOf121,
 v229 := Try.zeroValue121 }
def Try.laysCompact_ren : Go.Shelf.Ren := ⟨fun | 194 => 49 | n => n,fun | 31 => 62 | 9 => 9 | 3 => 3 | 4 => 4 | 0 => 0 | n => n,fun | n => n⟩
theorem Try.laysCompact : Go.Proofs.Lays.n194 Try.prog Try.laysCompact_ren := {
 mixed := by kernel_rfl,
 f194 := Try.func49.trans (congrArg some (by kernel_rfl)),
 t0 := Try.underlying0,
 a0 := Try.isAgg0,
 z0 := Try.sizeOf0,
 v0 := Try.zeroValue0,
 t3 := Try.underlying3,
 a3 := Try.isAgg3,
 z3 := Try.sizeOf3,
 v3 := Try.zeroValue3,
 t4 := Try.underlying4,
 a4 := Try.isAgg4,
 z4 := Try.sizeOf4,
 v4 := Try.zeroValue4,
 t9 := Try.underlying9,
 a9 := Try.isAgg9,
 z9 := Try.sizeOf9,
 v9 := Try.zeroValue9,
 t31 := Try.underlying62,
 a31 := Try.isAgg62,
 z31 := Try.sizeOf62,
 v31 := Try.zeroValue62 }
end Go.Proofs
namespace Go.Pv
open Go Go.Sort Go.Proofs
set_option linter.unusedVariables false
set_option linter.unusedSimpArgs false
def ofL (x : List UInt8) : ByteArray := ⟨x.toArray⟩
def toL (b : ByteArray) : List UInt8 := b.data.toList
@[simp] theorem ofL_toL (b : ByteArray) : ofL (toL b) = b := by cases b; simp [ofL,toL]
@[simp] theorem toL_ofL (x : List UInt8) : toL (ofL x) = x := by simp [ofL,toL]
def sortL (l : List ByteArray) : List ByteArray := ((l.map toL).mergeSort fun x y => decide (x ≤ y)).map ofL
def compL (l : List ByteArray) : List ByteArray := (Lib.compact (l.map toL)).map ofL
theorem sortL_length (l : List ByteArray) : (sortL l).length = l.length := by simp [sortL,List.length_mergeSort]
theorem sortL_toL (l : List ByteArray) : (sortL l).map toL = (l.map toL).mergeSort fun x y => decide (x ≤ y) := by
 unfold sortL; rw [List.map_map]; exact (List.map_congr_left fun x _ => toL_ofL x).trans (List.map_id _)
theorem compL_toL (l : List ByteArray) : (compL l).map toL = Lib.compact (l.map toL) := by
 unfold compL; rw [List.map_map]; exact (List.map_congr_left fun x _ => toL_ofL x).trans (List.map_id _)
theorem compL_length (l : List ByteArray) : (compL l).length ≤ l.length := by
 have := Lib.compact_length_le (l.map toL)
 simpa [compL] using this
theorem mem_of_compact {zs : List (List UInt8)} {x : List UInt8} (h : x ∈ Lib.compact zs) : x ∈ zs := by
 unfold Lib.compact Lib.compactUpTo at h
 obtain ⟨j,hj,rfl⟩ := List.mem_map.1 h
 rw [List.mem_filter,List.mem_range] at hj
 rw [getElem!_pos _ _ (by simpa using hj.1)]; simp
section
variable {C : Ctx} {p : PHeap} {σ : Sig} {s : Store} {w : World}
theorem SR.grown (h : SR C p σ s w) (os : Array Obj) : SR C p σ s (Go.Sort.grow w os) := by
 have hold : ∀ b,b < w.heap.size → (w.heap ++ os)[b]? = w.heap[b]? := fun b hb => Array.getElem?_append_left hb
 exact {
  pubIn := fun b o hb => by
   have := h.pubIn b o hb
   show (w.heap ++ os)[b]? = _
   rw [hold b (by
    rcases Nat.lt_or_ge b w.heap.size with h1 | h1
    ·exact h1
    ·rw [Array.getElem?_eq_none h1] at this; cases this)]
   exact this
  obj := fun i o hi => (h.obj i o hi).mono PHeap.le.rfl' Sig.le.rfl' (fun l h1 h2 h3 => ⟨by
   show (w.heap ++ os)[l.b]? = _
   refine hold _ ?_
   exact (ObjOK.alive h.obj ⟨_,hi,h1,h2,h3⟩).2,rfl⟩)
  inj := h.inj
  sig := h.sig
  os := h.os
  tape := h.tape
  output := h.output
  size := by show _ ≤ (w.heap ++ os).size; rw [Array.size_append]; have := h.size; omega
  frame := fun b hb hd => by
   show (w.heap ++ os)[b]? = _ ∧ _
   rw [hold b (Nat.lt_of_lt_of_le hb h.size)]
   exact h.frame b hb hd
  own := h.own
  ple := h.ple
  sle := h.sle }
theorem putRow_eq {b o : Nat} {ca : Array Value} {ty : TypeId} (hb : w.heap[b]? = some (.cells ca ty (0,0))) (zs : List ByteArray) (hsz : o + zs.length ≤ ca.size) :
  putRow encStr w b o (zs.map toL).toArray = { w with heap := w.heap.setIfInBounds b (.cells (spliceA ca o (zs.map Value.string)) ty (0,0)) } := by
 unfold putRow mapBlock
 congr 1
 apply Array.ext_getElem?
 intro i
 rw [Array.getElem?_modify,Array.getElem?_setIfInBounds]
 by_cases hi : b = i
 ·subst hi
  rw [if_pos rfl,if_pos rfl,hb]
  have hlt : b < w.heap.size := by
   rcases Nat.lt_or_ge b w.heap.size with h1 | h1
   ·exact h1
   ·rw [Array.getElem?_eq_none h1] at hb; cases hb
  rw [if_pos hlt]
  simp only [Option.map_some,onCells]
  congr 2
  apply Array.ext_getElem?
  intro j
  rw [spliceA_get _ _ _ _ (by simpa using hsz)]
  simp only [putCells,Array.getElem?_mapIdx,List.size_toArray,List.length_map]
  by_cases hj : o ≤ j ∧ j < o + zs.length
  ·rw [if_pos hj]
   have hjc : j < ca.size := by omega
   rw [Array.getElem?_eq_getElem hjc]
   simp only [Option.map_some,if_pos hj]
   have hjz : j - o < zs.length := by omega
   rw [List.getElem?_map,List.getElem?_eq_getElem hjz]
   simp only [Option.map_some,Option.some.injEq]
   rw [getElem!_pos _ _ (by simpa using hjz)]
   simp only [List.getElem_toArray,List.getElem_map]
   show Value.string ⟨(toL _).toArray⟩ = _
   rw [show (⟨(toL zs[j - o]).toArray⟩ : ByteArray) = ofL (toL zs[j - o]) from rfl,ofL_toL]
  ·rw [if_neg hj]
   cases hc : ca[j]? with
   | none => rfl
   | some v => simp only [Option.map_some,if_neg hj]
 ·rw [if_neg hi,if_neg hi]
theorem SR.putStrs (h : SR C p σ s w) {i : Nat} {loc : Loc} {l l2 : List ByteArray} (hi : s[i]? = some (.rows 1 (l.map strRow))) (hσ : σ i = some loc) (hn : 0 < l.length) (hl : l2.length = l.length) (hok : ∀ b ∈ l2,b.size ≤ maxLen) :
  SR C p σ (s.set i (.rows 1 (l2.map strRow))) (putRow encStr w loc.b loc.o (l2.map toL).toArray) := by
 obtain ⟨hn',hle,ca,ty,hb,hsz,hR⟩ := h.rows hi hσ (by intro e; simp at e; subst e; simp at hn)
 obtain ⟨l',hl1,hl2,_⟩ := h.obj i _ hi
 rw [hσ] at hl1; cases hl1
 rw [List.length_map] at hle
 rw [hl2] at hsz hR
 rw [putRow_eq hb l2 (by omega)]
 have := h.putRows (off := 0) (ys := l2.map strRow) (vs := l2.map Value.string) hi hσ hn' hb (by rw [hl2]; exact hsz) (by simp [hl]) (by rw [hl2]; exact hR) (by simp [hl2]) (by
  rw [hl2]
  refine ⟨fun r row hr => ?_,fun r row j v c hr hj hc => ?_⟩
  ·rw [List.getElem?_map,Option.map_eq_some_iff] at hr
   obtain ⟨b,_,rfl⟩ := hr; rfl
  ·rw [List.getElem?_map,Option.map_eq_some_iff] at hr
   obtain ⟨b,hb2,rfl⟩ := hr
   obtain rfl : j = 0 := by have := lt_of_getElem? hj; simp [strRow] at this; omega
   simp only [strRow,List.getElem?_cons_zero,Option.some.injEq] at hj
   subst hj
   rw [Nat.zero_add,Nat.mul_one,Nat.add_zero,List.getElem?_toArray,List.getElem?_map,hb2] at hc
   simp only [Option.map_some,Option.some.injEq] at hc
   subst hc
   exact .str (hok b (List.mem_of_getElem? hb2)))
 rw [Nat.zero_mul,Nat.add_zero] at this
 have e : Pv.putRows (l.map strRow) (l2.map strRow) 0 = l2.map strRow := by
  simp [Pv.putRows,hl]
 rw [e] at this
 exact this
theorem holds_strs (h : Base p σ s w) {i : Nat} {loc : Loc} {l : List ByteArray} (hi : s[i]? = some (.rows 1 (l.map strRow))) (hσ : σ i = some loc) (hn : 0 < l.length) :
  Holds encStr w loc.b loc.o (l.map toL).toArray ∧ loc.b < w.heap.size ∧ ∀ b ∈ l,b.size ≤ maxLen := by
 have h := SR.start h
 obtain ⟨hn',hle,ca,ty,hb,hsz,hR⟩ := h.rows hi hσ (by intro e; simp at e; subst e; simp at hn)
 obtain ⟨l',hl1,hl2,_⟩ := h.obj i _ hi
 rw [hσ] at hl1; cases hl1
 rw [List.length_map] at hle
 rw [hl2] at hsz hR
 have hlt : loc.b < w.heap.size := by
  rcases Nat.lt_or_ge loc.b w.heap.size with h1 | h1
  ·exact h1
  ·rw [Array.getElem?_eq_none h1] at hb; cases hb
 have hcell : ∀ (j : Nat) (hj : j < l.length),ca[loc.o + j]? = some (.string l[j]) ∧ l[j].size ≤ maxLen := by
  intro j hj
  have hjc : loc.o + j < ca.size := by omega
  have := hR.rel j (strRow l[j]) 0 (.str l[j]) ca[loc.o + j] (by rw [List.getElem?_map,List.getElem?_eq_getElem hj]; rfl) rfl (by rw [Nat.mul_one,Nat.add_zero]; exact Array.getElem?_eq_getElem hjc)
  rw [Array.getElem?_eq_getElem hjc]
  generalize ca[loc.o + j] = c at this
  cases this with
  | str h => exact ⟨rfl,h⟩
 refine ⟨fun j hj => ?_,hlt,fun b hb => ?_⟩
 ·simp only [List.size_toArray,List.length_map] at hj
  obtain ⟨h1,_⟩ := hcell j hj
  refine ⟨?_,?_⟩
  ·unfold World.cell?
   rw [hb]
   simp only [Option.isSome_none,Bool.false_eq_true,if_false]
   rw [h1,getElem!_pos _ _ (by simpa using hj)]
   simp only [List.getElem_toArray,List.getElem_map]
   show _ = some (Value.string (ofL (toL l[j])))
   rw [ofL_toL]
  ·unfold World.frozen?
   rw [hb]
   simp
 ·obtain ⟨j,hj,rfl⟩ := List.getElem_of_mem hb
  exact (hcell j hj).2
end
theorem set_same {s : Store} {i : Nat} {o : PObj} (h : s[i]? = some o) : s.set i o = s := by
 apply List.ext_getElem?
 intro j
 rw [List.getElem?_set]
 split
 ·subst_vars
  rw [if_pos (lt_of_getElem? h),h]
 ·rfl
theorem sort_strs (s : Store) (i : Nat) (l : List ByteArray) (hi : s[i]? = some (.rows 1 (l.map strRow))) (hl : l.length < 4611686018427387904) :
  CallOK Go.Proofs.Try.prog 48 [.sl i 0 l.length] s (.tuple []) (s.set i (.rows 1 ((sortL l).map strRow))) := by
 intro pub σ w cargs hb ha
 obtain ⟨c,rfl⟩ : ∃ c,cargs = #[c] := by
  have := ha.1
  match cargs,this with
  | ⟨[c]⟩,_ => exact ⟨c,rfl⟩
 have hr := ha.2 0 _ _ rfl rfl
 cases hr with
 | sl hσ hlen hcap ha2 =>
  rename_i loc ad cap
  by_cases h0 : l.length = 0
  ·have hle : l = [] := List.length_eq_zero_iff.1 h0
   subst hle
   refine Calls.mono (calls_of_every_depth fun D => AnyS.slices_Sort_string_none_alone Go.Proofs.Try.laysSort D ad cap w) ?_
   rintro e w' ⟨rfl,rfl⟩
   refine ⟨_,pub,σ,rfl,?_,.tuple rfl fun j v c h => by simp at h⟩
   rw [show (sortL []).map strRow = [] from by simp [sortL],set_same (by simpa using hi)]
   exact SR.start hb
  ·obtain ⟨rfl,hn⟩ := ha2 (by omega)
   obtain ⟨hH,hlt,hmx⟩ := holds_strs hb hi hσ (by omega)
   rw [Nat.zero_mul,Nat.add_zero]
   have hc := calls_of_every_depth fun D => AnyS.slices_Sort_string_alone Go.Proofs.Try.laysSort D loc.b loc.o cap (l.map toL) w hH hlt (by simpa using hl)
   rw [List.length_map] at hc
   refine Calls.mono hc ?_
   rintro e w' ⟨rfl,n,os,rfl⟩
   refine ⟨_,pub,σ,rfl,?_,.tuple rfl fun j v c h => by simp at h⟩
   rw [← sortL_toL]
   refine SR.grown ?_ os
   refine SR.putStrs (l := l) (l2 := sortL l) ((SR.start hb).drawn (w' := Go.Sort.ahead w n) rfl rfl rfl rfl) hi hσ (by omega) (sortL_length l) fun b hbm => ?_
   unfold sortL at hbm
   obtain ⟨x,hx,rfl⟩ := List.mem_map.1 hbm
   rw [List.mem_mergeSort] at hx
   obtain ⟨b,hb2,rfl⟩ := List.mem_map.1 hx
   rw [ofL_toL]
   exact hmx b hb2
theorem compact_strs (s : Store) (i : Nat) (l : List ByteArray) (hi : s[i]? = some (.rows 1 (l.map strRow))) (hl : l.length < 4611686018427387904) :
  CallOK Go.Proofs.Try.prog 49 [.sl i 0 l.length] s (.sl i 0 (compL l).length) (s.set i (.rows 1 ((compL l ++ List.replicate (l.length - (compL l).length) (⟨#[]⟩ : ByteArray)).map strRow))) := by
 intro pub σ w cargs hb ha
 obtain ⟨c,rfl⟩ : ∃ c,cargs = #[c] := by
  have := ha.1
  match cargs,this with
  | ⟨[c]⟩,_ => exact ⟨c,rfl⟩
 have hr := ha.2 0 _ _ rfl rfl
 cases hr with
 | sl hσ hlen hcap ha2 =>
  rename_i loc ad cap
  by_cases h0 : l.length = 0
  ·have hle : l = [] := List.length_eq_zero_iff.1 h0
   subst hle
   refine Calls.mono (calls_of_every_depth fun D => AnyS.slices_Compact_string_empty_in Go.Proofs.Try.laysCompact D ad cap w) ?_
   rintro e w' ⟨rfl,rfl⟩
   have hce : compL [] = [] := List.length_eq_zero_iff.1 (Nat.le_zero.1 (compL_length []))
   refine ⟨_,pub,σ,rfl,?_,?_⟩
   ·rw [hce]
    simp only [List.length_nil,Nat.sub_self,List.replicate_zero,List.append_nil,List.map_nil]
    rw [set_same (by simpa using hi)]
    exact SR.start hb
   ·rw [hce]; exact .sl hσ hlen hcap ha2
  ·obtain ⟨rfl,hn⟩ := ha2 (by omega)
   obtain ⟨hH,hlt,hmx⟩ := holds_strs hb hi hσ (by omega)
   rw [Nat.zero_mul,Nat.add_zero]
   have hc := calls_of_every_depth fun D => AnyS.slices_Compact_string_in Go.Proofs.Try.laysCompact D loc.b loc.o cap (l.map toL) w hH (by simp; omega) (by simpa using hlen)
   rw [List.length_map] at hc
   refine Calls.mono hc ?_
   rintro e w' ⟨rfl,n,rfl⟩
   have hcl : (Lib.compact (l.map toL)).length = (compL l).length := by simp [compL]
   rw [hcl]
   refine ⟨_,pub,σ,rfl,?_,?_⟩
   ·have he : Lib.compact (l.map toL) ++ List.replicate (l.length - (compL l).length) [] = (compL l ++ List.replicate (l.length - (compL l).length) (⟨#[]⟩ : ByteArray)).map toL := by
     rw [List.map_append,compL_toL]; simp [toL]
    rw [he]
    have hcle := compL_length l
    refine SR.putStrs ((SR.start hb).drawn (w' := Go.Sort.ahead w n) rfl rfl rfl rfl) hi hσ (by omega) (by simp; omega) fun b hbm => ?_
    rcases List.mem_append.1 hbm with hbm | hbm
    ·unfold compL at hbm
     obtain ⟨x,hx,rfl⟩ := List.mem_map.1 hbm
     have hx2 := mem_of_compact hx
     obtain ⟨b,hb2,rfl⟩ := List.mem_map.1 hx2
     rw [ofL_toL]
     exact hmx b hb2
    ·rw [List.mem_replicate] at hbm
     rw [hbm.2]; simp [maxLen]
   ·have hcle := compL_length l
    refine .sl hσ (by omega) hcap fun h => ⟨by rw [Nat.zero_mul,Nat.add_zero],hn⟩
theorem sort_strs' {s : Store} {i n : Nat} (l : List ByteArray) (hi : s[i]? = some (.rows 1 (l.map strRow))) (hn : l.length = n) (hl : n ≤ 1000000) :
  CallOK Go.Proofs.Try.prog 48 [.sl i 0 n] s (.tuple []) (s.set i (.rows 1 ((sortL l).map strRow))) := by
 subst hn; exact sort_strs s i l hi (by omega)
theorem compact_strs' {s : Store} {i n : Nat} (l : List ByteArray) (hi : s[i]? = some (.rows 1 (l.map strRow))) (hn : l.length = n) (hl : n ≤ 1000000) :
  CallOK Go.Proofs.Try.prog 49 [.sl i 0 n] s (.sl i 0 (compL l).length) (s.set i (.rows 1 ((compL l ++ List.replicate (n - (compL l).length) (⟨#[]⟩ : ByteArray)).map strRow))) := by
 subst hn; exact compact_strs s i l hi (by omega)
end Go.Pv
namespace Go.Proofs
open Go.Shelf
def Try.laysSortI_ren : Go.Shelf.Ren := ⟨fun | 189 => 50 | 125 => 59 | 257 => 60 | 128 => 72 | 129 => 73 | 294 => 74 | 295 => 75 | 296 => 76 | 297 => 77 | 298 => 78 | 299 => 79 | 216 => 80 | 300 => 81 | 301 => 82 | 328 => 89 | 329 => 84 | 330 => 85 | 331 => 90 | 332 => 91 | 215 => 92 | 343 => 94 | n => n,fun | 28 => 27 | 3 => 3 | 46 => 88 | 0 => 0 | 51 => 103 | 53 => 105 | 4 => 4 | 183 => 95 | 182 => 94 | 131 => 100 | 5 => 5 | 9 => 9 | 218 => 111 | 222 => 115 | 228 => 120 | 229 => 121 | n => n,fun | n => n⟩
theorem Try.laysSortI : Go.Proofs.Lays.n189 Try.prog Try.laysSortI_ren := {
 mixed := by kernel_rfl,
 f125 := Try.func59.trans (congrArg some (by kernel_rfl)),
 f128 := Try.func72.trans (congrArg some (by kernel_rfl)),
 f129 := Try.func73.trans (congrArg some (by kernel_rfl)),
 f189 := Try.func50.trans (congrArg some (by kernel_rfl)),
 f215 := Try.func92.trans (congrArg some (by kernel_rfl)),
 f216 := Try.func80.trans (congrArg some (by kernel_rfl)),
 f257 := Try.func60.trans (congrArg some (by kernel_rfl)),
 f294 := Try.func74.trans (congrArg some (by kernel_rfl)),
 f295 := Try.func75.trans (congrArg some (by kernel_rfl)),
 f296 := Try.func76.trans (congrArg some (by kernel_rfl)),
 f297 := Try.func77.trans (congrArg some (by kernel_rfl)),
 f298 := Try.func78.trans (congrArg some (by kernel_rfl)),
 f299 := Try.func79.trans (congrArg some (by kernel_rfl)),
 f300 := Try.func81.trans (congrArg some (by kernel_rfl)),
 f301 := Try.func82.trans (congrArg some (by kernel_rfl)),
 f328 := Try.func89.trans (congrArg some (by kernel_rfl)),
 f329 := Try.func84.trans (congrArg some (by kernel_rfl)),
 f330 := Try.func85.trans (congrArg some (by kernel_rfl)),
 f331 := Try.func90.trans (congrArg some (by kernel_rfl)),
 f332 := Try.func91.trans (congrArg some (by kernel_rfl)),
 f343 := Try.func94.trans (congrArg some (by kernel_rfl)),
 t0 := Try.underlying0,
 a0 := Try.isAgg0,
 z0 := Try.sizeOf0,
 v0 := Try.zeroValue0,
 t3 := Try.underlying3,
 a3 := Try.isAgg3,
 z3 := Try.sizeOf3,
 v3 := Try.zeroValue3,
 t4 := Try.underlying4,
 a4 := Try.isAgg4,
 z4 := Try.sizeOf4,
 v4 := Try.zeroValue4,
 t5 := Try.underlying5,
 a5 := Try.isAgg5,
 z5 := Try.sizeOf5,
 v5 := Try.zeroValue5,
 t9 := Try.underlying9,
 a9 := Try.isAgg9,
 z9 := Try.sizeOf9,
 v9 := Try.zeroValue9,
 t28 := Try.underlying27,
 a28 := Try.isAgg27,
 z28 := Try.sizeOf27,
 v28 := Try.zeroValue27,
 t46 := Try.underlying88,
 a46 := Try.isAgg88,
 z46 := Try.sizeOf88,
 v46 := Try.zeroValue88,
 t51 := Try.underlying103,
 a51 := Try.isAgg103,
 z51 := Try.sizeOf103,
 v51 := Try.zeroValue103,
 t53 := Try.underlying105,
 a53 := Try.isAgg105,
 z53 := Try.sizeOf105,
 v53 := Try.zeroValue105,
 t131 := Try.underlying100,
 a131 := Try.isAgg100,
 z131 := Try.sizeOf100,
 v131 := Try.zeroValue100,
 t182 := Try.underlying94,
 a182 := Try.isAgg94,
 z182 := Try.sizeOf94,
 v182 := Try.zeroValue94,
 t183 := Try.underlying95,
 a183 := Try.isAgg95,
 z183 := Try.sizeOf95,
 v183 := Try.zeroValue95,
 t218 := Try.underlying111,
 a218 := Try.isAgg111,
 z218 := Try.sizeOf111,
 v218 := Try.zeroValue111,
 t222 := Try.underlying115,
 a222 := Try.isAgg115,
 z222 := Try.sizeOf115,
 v222 := Try.zeroValue115,
 t228 := Try.underlying120,
 a228 := Try.isAgg120,
 z228 := Try.sizeOf120,
 v228 := Try.zeroValue120,
 t229 := Try.underlying121,
 a229 := Try.isAgg121,
 z229 := Try.sizeOf121,
 v229 := Try.zeroValue121 }
def Try.laysCompactI_ren : Go.Shelf.Ren := ⟨fun | 20 => 51 | n => n,fun | 22 => 27 | 3 => 3 | 4 => 4 | 0 => 0 | n => n,fun | n => n⟩
theorem Try.laysCompactI : Go.Proofs.Lays2.n20 Try.prog Try.laysCompactI_ren := {
 mixed := by kernel_rfl,
 f20 := Try.func51.trans (congrArg some (by kernel_rfl)),
 t0 := Try.underlying0,
 a0 := Try.isAgg0,
 z0 := Try.sizeOf0,
 v0 := Try.zeroValue0,
 t3 := Try.underlying3,
 a3 := Try.isAgg3,
 z3 := Try.sizeOf3,
 v3 := Try.zeroValue3,
 t4 := Try.underlying4,
 a4 := Try.isAgg4,
 z4 := Try.sizeOf4,
 v4 := Try.zeroValue4,
 t22 := Try.underlying27,
 a22 := Try.isAgg27,
 z22 := Try.sizeOf27,
 v22 := Try.zeroValue27,
 i3 := by kernel_rfl }
end Go.Proofs
namespace Go.Pv
open Go Go.Sort Go.Proofs
set_option linter.unusedVariables false
set_option linter.unusedSimpArgs false
theorem mem_of_compactI {zs : List Int} {x : Int} (h : x ∈ Lib.compact zs) : x ∈ zs := by
 unfold Lib.compact Lib.compactUpTo at h
 obtain ⟨j,hj,rfl⟩ := List.mem_map.1 h
 rw [List.mem_filter,List.mem_range] at hj
 rw [getElem!_pos _ _ (by simpa using hj.1)]; simp
section
variable {C : Ctx} {p : PHeap} {σ : Sig} {s : Store} {w : World}
theorem putRowI_eq {b o : Nat} {ca : Array Value} {ty : TypeId} (hb : w.heap[b]? = some (.cells ca ty (0,0))) (zs : List Int) (hsz : o + zs.length ≤ ca.size) :
  putRow (Value.int .i64) w b o zs.toArray = { w with heap := w.heap.setIfInBounds b (.cells (spliceA ca o (zs.map (Value.int .i64))) ty (0,0)) } := by
 unfold putRow mapBlock
 congr 1
 apply Array.ext_getElem?
 intro i
 rw [Array.getElem?_modify,Array.getElem?_setIfInBounds]
 by_cases hi : b = i
 ·subst hi
  rw [if_pos rfl,if_pos rfl,hb]
  have hlt : b < w.heap.size := by
   rcases Nat.lt_or_ge b w.heap.size with h1 | h1
   ·exact h1
   ·rw [Array.getElem?_eq_none h1] at hb; cases hb
  rw [if_pos hlt]
  simp only [Option.map_some,onCells]
  congr 2
  apply Array.ext_getElem?
  intro j
  rw [spliceA_get _ _ _ _ (by simpa using hsz)]
  simp only [putCells,Array.getElem?_mapIdx,List.size_toArray,List.length_map]
  by_cases hj : o ≤ j ∧ j < o + zs.length
  ·rw [if_pos hj]
   have hjc : j < ca.size := by omega
   rw [Array.getElem?_eq_getElem hjc]
   simp only [Option.map_some,if_pos hj]
   have hjz : j - o < zs.length := by omega
   rw [List.getElem?_map,List.getElem?_eq_getElem hjz]
   simp only [Option.map_some,Option.some.injEq]
   rw [getElem!_pos _ _ (by simpa using hjz)]
   simp
  ·rw [if_neg hj]
   cases hc : ca[j]? with
   | none => rfl
   | some v => simp only [Option.map_some,if_neg hj]
 ·rw [if_neg hi,if_neg hi]
theorem SR.putInts (h : SR C p σ s w) {i : Nat} {loc : Loc} {l l2 : List Int} (hi : s[i]? = some (.rows 1 (l.map intRow))) (hσ : σ i = some loc) (hn : 0 < l.length) (hl : l2.length = l.length) :
  SR C p σ (s.set i (.rows 1 (l2.map intRow))) (putRow (Value.int .i64) w loc.b loc.o l2.toArray) := by
 obtain ⟨hn',hle,ca,ty,hb,hsz,hR⟩ := h.rows hi hσ (by intro e; simp at e; subst e; simp at hn)
 obtain ⟨l',hl1,hl2,_⟩ := h.obj i _ hi
 rw [hσ] at hl1; cases hl1
 rw [List.length_map] at hle
 rw [hl2] at hsz hR
 rw [putRowI_eq hb l2 (by omega)]
 have := h.putRows (off := 0) (ys := l2.map intRow) (vs := l2.map (Value.int .i64)) hi hσ hn' hb (by rw [hl2]; exact hsz) (by simp [hl]) (by rw [hl2]; exact hR) (by simp [hl2]) (by
  rw [hl2]
  refine ⟨fun r row hr => ?_,fun r row j v c hr hj hc => ?_⟩
  ·rw [List.getElem?_map,Option.map_eq_some_iff] at hr
   obtain ⟨b,_,rfl⟩ := hr; rfl
  ·rw [List.getElem?_map,Option.map_eq_some_iff] at hr
   obtain ⟨b,hb2,rfl⟩ := hr
   obtain rfl : j = 0 := by have := lt_of_getElem? hj; simp [intRow] at this; omega
   simp only [intRow,List.getElem?_cons_zero,Option.some.injEq] at hj
   subst hj
   rw [Nat.zero_add,Nat.mul_one,Nat.add_zero,List.getElem?_toArray,List.getElem?_map,hb2] at hc
   simp only [Option.map_some,Option.some.injEq] at hc
   subst hc
   exact .int)
 rw [Nat.zero_mul,Nat.add_zero] at this
 have e : Pv.putRows (l.map intRow) (l2.map intRow) 0 = l2.map intRow := by
  simp [Pv.putRows,hl]
 rw [e] at this
 exact this
theorem holds_ints (h : Base p σ s w) {i : Nat} {loc : Loc} {l : List Int} (hi : s[i]? = some (.rows 1 (l.map intRow))) (hσ : σ i = some loc) (hn : 0 < l.length) :
  Holds (Value.int .i64) w loc.b loc.o l.toArray ∧ loc.b < w.heap.size := by
 have h := SR.start h
 obtain ⟨hn',hle,ca,ty,hb,hsz,hR⟩ := h.rows hi hσ (by intro e; simp at e; subst e; simp at hn)
 obtain ⟨l',hl1,hl2,_⟩ := h.obj i _ hi
 rw [hσ] at hl1; cases hl1
 rw [List.length_map] at hle
 rw [hl2] at hsz hR
 have hlt : loc.b < w.heap.size := by
  rcases Nat.lt_or_ge loc.b w.heap.size with h1 | h1
  ·exact h1
  ·rw [Array.getElem?_eq_none h1] at hb; cases hb
 have hcell : ∀ (j : Nat) (hj : j < l.length),ca[loc.o + j]? = some (.int .i64 l[j]) := by
  intro j hj
  have hjc : loc.o + j < ca.size := by omega
  have := hR.rel j (intRow l[j]) 0 (.int .i64 l[j]) ca[loc.o + j] (by rw [List.getElem?_map,List.getElem?_eq_getElem hj]; rfl) rfl (by rw [Nat.mul_one,Nat.add_zero]; exact Array.getElem?_eq_getElem hjc)
  rw [Array.getElem?_eq_getElem hjc]
  generalize ca[loc.o + j] = c at this
  cases this with
  | int => rfl
 refine ⟨fun j hj => ?_,hlt⟩
 simp only [List.size_toArray] at hj
 have h1 := hcell j hj
 refine ⟨?_,?_⟩
 ·unfold World.cell?
  rw [hb]
  simp only [Option.isSome_none,Bool.false_eq_true,if_false]
  rw [h1,getElem!_pos _ _ (by simpa using hj)]
  simp
 ·unfold World.frozen?
  rw [hb]
  simp
end
theorem sort_ints (s : Store) (i : Nat) (l : List Int) (hi : s[i]? = some (.rows 1 (l.map intRow))) (hl : l.length < 4611686018427387904) :
  CallOK Go.Proofs.Try.prog 50 [.sl i 0 l.length] s (.tuple []) (s.set i (.rows 1 ((l.mergeSort fun x y => decide (x ≤ y)).map intRow))) := by
 intro pub σ w cargs hb ha
 obtain ⟨c,rfl⟩ : ∃ c,cargs = #[c] := by
  have := ha.1
  match cargs,this with
  | ⟨[c]⟩,_ => exact ⟨c,rfl⟩
 have hr := ha.2 0 _ _ rfl rfl
 cases hr with
 | sl hσ hlen hcap ha2 =>
  rename_i loc ad cap
  by_cases h0 : l.length = 0
  ·have hle : l = [] := List.length_eq_zero_iff.1 h0
   subst hle
   refine Calls.mono (calls_of_every_depth fun D => AnyS.slices_Sort_int_none_alone Go.Proofs.Try.laysSortI D ad cap w) ?_
   rintro e w' ⟨rfl,rfl⟩
   refine ⟨_,pub,σ,rfl,?_,.tuple rfl fun j v c h => by simp at h⟩
   rw [show (([] : List Int).mergeSort fun x y => decide (x ≤ y)).map intRow = [] from by simp,set_same (by simpa using hi)]
   exact SR.start hb
  ·obtain ⟨rfl,hn⟩ := ha2 (by omega)
   obtain ⟨hH,hlt⟩ := holds_ints hb hi hσ (by omega)
   rw [Nat.zero_mul,Nat.add_zero]
   have hc := calls_of_every_depth fun D => AnyS.slices_Sort_int_alone Go.Proofs.Try.laysSortI D loc.b loc.o cap l w hH hlt (by simpa using hl)
   refine Calls.mono hc ?_
   rintro e w' ⟨rfl,n,os,rfl⟩
   refine ⟨_,pub,σ,rfl,?_,.tuple rfl fun j v c h => by simp at h⟩
   refine SR.grown ?_ os
   exact SR.putInts (l := l) ((SR.start hb).drawn (w' := Go.Sort.ahead w n) rfl rfl rfl rfl) hi hσ (by omega) (List.length_mergeSort _)
theorem compact_ints (s : Store) (i : Nat) (l : List Int) (hi : s[i]? = some (.rows 1 (l.map intRow))) (hl : l.length < 4611686018427387904) :
  CallOK Go.Proofs.Try.prog 51 [.sl i 0 l.length] s (.sl i 0 (Lib.compact l).length) (s.set i (.rows 1 ((Lib.compact l ++ List.replicate (l.length - (Lib.compact l).length) 0).map intRow))) := by
 intro pub σ w cargs hb ha
 obtain ⟨c,rfl⟩ : ∃ c,cargs = #[c] := by
  have := ha.1
  match cargs,this with
  | ⟨[c]⟩,_ => exact ⟨c,rfl⟩
 have hr := ha.2 0 _ _ rfl rfl
 cases hr with
 | sl hσ hlen hcap ha2 =>
  rename_i loc ad cap
  have hcle := Lib.compact_length_le l
  by_cases h0 : l.length = 0
  ·have hle : l = [] := List.length_eq_zero_iff.1 h0
   subst hle
   refine Calls.mono (calls_of_every_depth fun D => AnyS.slices_Compact_int_empty_in Go.Proofs.Try.laysCompactI D ad cap w) ?_
   rintro e w' ⟨rfl,rfl⟩
   have hce : Lib.compact ([] : List Int) = [] := List.length_eq_zero_iff.1 (Nat.le_zero.1 hcle)
   refine ⟨_,pub,σ,rfl,?_,?_⟩
   ·rw [hce]
    simp only [List.length_nil,Nat.sub_self,List.replicate_zero,List.append_nil,List.map_nil]
    rw [set_same (by simpa using hi)]
    exact SR.start hb
   ·rw [hce]; exact .sl hσ hlen hcap ha2
  ·obtain ⟨rfl,hn⟩ := ha2 (by omega)
   obtain ⟨hH,hlt⟩ := holds_ints hb hi hσ (by omega)
   rw [Nat.zero_mul,Nat.add_zero]
   have hc := calls_of_every_depth fun D => AnyS.slices_Compact_int_in Go.Proofs.Try.laysCompactI D loc.b loc.o cap l w hH (by omega) (by simpa using hlen)
   refine Calls.mono hc ?_
   rintro e w' ⟨rfl,n,rfl⟩
   refine ⟨_,pub,σ,rfl,?_,?_⟩
   ·exact SR.putInts ((SR.start hb).drawn (w' := Go.Sort.ahead w n) rfl rfl rfl rfl) hi hσ (by omega) (by simp; omega)
   ·refine .sl hσ (by omega) hcap fun h => ⟨by rw [Nat.zero_mul,Nat.add_zero],hn⟩
end Go.Pv
namespace Go.Proofs.Yticchggapegnlaa
open Go Go.Pv
def kidsN (n : Int) : Int := if n = 1 ∨ n = 2 ∨ n = 3 then 0 else if n = 4 ∨ n = 8 ∨ n = 9 then 1 else if n = 5 ∨ n = 6 ∨ n = 7 then 2 else -1
def letterB (b : UInt8) : Bool := decide (97 ≤ b.toNat ∧ b.toNat ≤ 122)
def isNameB (s : ByteArray) : Bool := decide (1 ≤ s.size ∧ s.size ≤ 8) && s.data.toList.all letterB
theorem decode_high (s : ByteArray) (i : Nat) (h : i < s.size) (hb : 128 ≤ s[i].toNat) : 128 ≤ (Utf8.decode s i).1 := by
 have hg : (s.get! (i + 0)).toNat = s[i].toNat := by
  rw [Nat.add_zero]
  show (s.data[i]!).toNat = _
  rw [getElem!_pos s.data i h]; rfl
 unfold Utf8.decode
 simp only [hg,Utf8.runeError]
 rw [if_neg (by omega)]
 split
 ·split
  ·assumption
  ·decide
 ·split
  ·split
   ·rename_i h1; simp only [Bool.and_eq_true,decide_eq_true_eq] at h1; omega
   ·decide
  ·split
   ·split
    ·rename_i h1; simp only [Bool.and_eq_true,decide_eq_true_eq] at h1; omega
    ·decide
   ·decide
theorem decode_letter (s : ByteArray) (i : Nat) (h : i < s.size) : (letterB s[i] = true → Utf8.decode s i = (s[i].toNat,1)) ∧ (letterB s[i] = false → (Utf8.decode s i).1 < 97 ∨ 122 < (Utf8.decode s i).1) := by
 refine ⟨fun hl => ?_,fun hl => ?_⟩
 ·simp only [letterB,decide_eq_true_eq] at hl
  exact decode_ascii s i h (by omega)
 ·simp only [letterB,decide_eq_false_iff_not] at hl
  by_cases hb : s[i].toNat < 128
  ·rw [decode_ascii s i h hb]; simp only; omega
  ·have := decode_high s i h (by omega); omega
theorem all_letter (s : ByteArray) : s.data.toList.all letterB = true ↔ ∀ i (h : i < s.size),letterB s[i] = true := by
 rw [List.all_eq_true]
 constructor
 ·intro h i hi; exact h _ (by simp [ByteArray.getElem_eq_getElem_data])
 ·intro h b hb
  obtain ⟨i,hi,rfl⟩ := List.mem_iff_getElem.1 hb
  exact h i (by simpa using hi)
theorem letter_of_decode (t : ByteArray) (i : Nat) (hi : i < t.size) (h1 : 97 ≤ ((Utf8.decode t i).1 : Int)) (h2 : ((Utf8.decode t i).1 : Int) ≤ 122) : letterB t[i] = true := by
 cases hb : letterB t[i] with
 | true => rfl
 | false => have := (decode_letter t i hi).2 hb; omega
theorem no_name (t : ByteArray) (i : Nat) (hi : i < t.size) (h : ((Utf8.decode t i).1 : Int) < 97 ∨ 122 < ((Utf8.decode t i).1 : Int)) : isNameB t = false := by
 have h1 : letterB t[i] = false := by
  cases hb : letterB t[i] with
  | false => rfl
  | true =>
   have := (decode_letter t i hi).1 hb
   simp only [letterB,decide_eq_true_eq] at hb
   rw [this] at h; simp only at h; omega
 have h2 : ¬ t.data.toList.all letterB = true := by
  rw [all_letter]; intro h3; rw [h3 i hi] at h1; cases h1
 simp [isNameB,h2]
theorem isName_formula (t : ByteArray) (s : Store) : CallOK Try.prog 40 [.str t] s (.bool (isNameB t)) s := by
 have _hty := ty21
 refine CallOK.frame ?_ ?_
 ·refine callOK_of Try.func40 rfl rfl Try.ntmps40 (by simp) ?_
  rw [Try.results40]
  dsimp only [light,regL,dsts,lopsL,lop,nth]
  (have F_ := True.intro); repeat' (first | (with_reducible refine stp ?_) | (with_reducible refine hq _ _ ?_; clear hq q) | (with_reducible refine hk _ _ ?_; clear hk k) | (with_reducible refine EvL.regA (fun k hk => ?_)) | ((with_reducible apply WOps.call); (· fail)) | (with_reducible refine WOps.auto F_ (fun q hq => ?_)) | ((with_reducible refine EvL.condA ?_ ?_); all_goals (intro h <;> (try simp only [hna,hnb,hnc,ne_eq,reduceCtorEq,Int.reduceEq,gt_iff_lt,ge_iff_le] at h) <;> (try (exfalso; omega; done)))) | (with_reducible refine EvL.drawnA (fun k hk => ?_)) | (with_reducible refine EvL.mixA (fun k hk => ?_)) | (with_reducible refine EvL.mix2A (fun k hk => ?_)) | (with_reducible refine WMix.bothA F_ ?_ ?_) | (with_reducible refine WOps.takeA ?_) | (with_reducible refine WOps.passA ?_) | ((with_reducible refine WOps.splitA ?_ ?_); all_goals (intro h <;> simp only [h] <;> (try simp only [hna,hnb,hnc,ne_eq,reduceCtorEq,Int.reduceEq,gt_iff_lt,ge_iff_le] at h) <;> (try (exfalso; omega; done)))) | (with_reducible refine WMix.takeA ?_) | (with_reducible refine WMix.passA ?_) | (with_reducible refine WMix.consA F_ ?_) | (with_reducible refine WMix.makeA F_ ?_) | ((with_reducible refine And.intro ?_ ?_); (· omega)) | ((with_reducible refine And.intro (fun h => ?_) (fun h => ?_)) <;> (try simp only [Decidable.not_not] at h) <;> (try simp only [h])) | (with_reducible intro hl))
  all_goals first | ((refine finA ?_; try exact trivial); simp [isNameB]; omega; done) | skip
  ·refine EvL.loop (X := Nat) (fun i => [(0,.str t),(14,.ptr 0 0 0)]) (fun i => [.iter t i]) (fun i => i ≤ t.size ∧ ∀ j (h : j < t.size),j < i → letterB t[j] = true) (fun i => t.size - i) 0 ⟨by omega,fun j _ h => by omega⟩
    (View.of [0] _ (by simp) (by decide) (by (refine vw ?_; try exact trivial)) (by (refine vw ?_; try exact trivial))) (fun i hi => ?_)
   (have F_ := True.intro); repeat' (first | (with_reducible refine stp ?_) | (with_reducible refine hq _ _ ?_; clear hq q) | (with_reducible refine hk _ _ ?_; clear hk k) | (with_reducible refine EvL.regA (fun k hk => ?_)) | ((with_reducible apply WOps.call); (· fail)) | (with_reducible refine WOps.auto F_ (fun q hq => ?_)) | ((with_reducible refine EvL.condA ?_ ?_); all_goals (intro h <;> (try simp only [hna,hnb,hnc,ne_eq,reduceCtorEq,Int.reduceEq,gt_iff_lt,ge_iff_le] at h) <;> (try (exfalso; omega; done)))) | (with_reducible refine EvL.drawnA (fun k hk => ?_)) | (with_reducible refine EvL.mixA (fun k hk => ?_)) | (with_reducible refine EvL.mix2A (fun k hk => ?_)) | (with_reducible refine WMix.bothA F_ ?_ ?_) | (with_reducible refine WOps.takeA ?_) | (with_reducible refine WOps.passA ?_) | ((with_reducible refine WOps.splitA ?_ ?_); all_goals (intro h <;> simp only [h] <;> (try simp only [hna,hnb,hnc,ne_eq,reduceCtorEq,Int.reduceEq,gt_iff_lt,ge_iff_le] at h) <;> (try (exfalso; omega; done)))) | (with_reducible refine WMix.takeA ?_) | (with_reducible refine WMix.passA ?_) | (with_reducible refine WMix.consA F_ ?_) | (with_reducible refine WMix.makeA F_ ?_) | ((with_reducible refine And.intro ?_ ?_); (· omega)) | ((with_reducible refine And.intro (fun h => ?_) (fun h => ?_)) <;> (try simp only [Decidable.not_not] at h) <;> (try simp only [h])) | (with_reducible intro hl))
   all_goals first | ((refine finA ?_; try exact trivial); rw [no_name t i ‹_› (by omega)]; done) | skip
   ·have h1 : letterB t[i] = true := letter_of_decode t i ‹_› (by omega) (by omega)
    have h2 := (decode_letter t i ‹_›).1 h1
    rw [h2]
    refine ⟨i + 1,⟨by omega,fun j hj hji => ?_⟩,by omega,View.of [0] _ (by simp) (by decide) (by (refine vw ?_; try exact trivial)) (by (refine vw ?_; try exact trivial))⟩
    by_cases e : j = i
    ·subst e; exact h1
    ·exact hi.2 j hj (by omega)
   ·(refine finA ?_; try exact trivial)
    have h2 : t.data.toList.all letterB = true := by
     rw [all_letter]; intro j hj; exact hi.2 j hj (by omega)
    simp [isNameB,h2]; omega
 ·simp [flat_str,Flat.closed]
end Go.Proofs.Yticchggapegnlaa
namespace Go.Proofs.Yticchggapegnlaa
open Go Go.Pv
theorem Fm.ind {p : Fm → Prop} (h : ∀ f : Fm,(∀ g ∈ f.kids,p g) → p f) : ∀ f,p f
 | .mk k nm kids => h _ fun g hg => Fm.ind h g
termination_by f => SizeOf.sizeOf f
decreasing_by
 have := List.sizeOf_lt_of_mem hg
 simp only [Fm.kids,Fm.mk.sizeOf_spec] at *
 omega
end Go.Proofs.Yticchggapegnlaa
namespace Go.Proofs.Yticchggapegnlaa
open Go Go.Pv
inductive OkF (N : ByteArray → Prop) : Fm → Prop where
 | mk {k : Int} {nm : ByteArray} {kids : List Fm} (h : (kids.length : Int) = kidsN k) (hN : k = 1 → N nm) (g : ∀ f ∈ kids,OkF N f) : OkF N (.mk k nm kids)
mutual
def pre : Fm → List Fm
 | .mk k nm l => .mk k nm l :: pres l
def pres : List Fm → List Fm
 | [] => []
 | f :: r => pre f ++ pres r
end
theorem pre_eq (f : Fm) : pre f = f :: pres f.kids := by cases f with | mk k nm l => rw [pre]; rfl
theorem pres_nil : pres [] = [] := by rw [pres]
theorem pres_cons (f : Fm) (r : List Fm) : pres (f :: r) = pre f ++ pres r := by rw [pres]
def okN (x : Fm) : Prop := 0 ≤ kidsN x.kind ∧ (x.kids.length : Int) = kidsN x.kind ∧ ¬ ((x.kind = 1 ∧ isNameB x.name = false) ∨ (x.kind ≠ 1 ∧ x.name ≠ ⟨#[]⟩))
theorem okF_of_pre : ∀ f : Fm,(∀ x ∈ pre f,okN x) → OkF (fun n => isNameB n = true) f := by
 intro f
 induction f using Fm.ind with
 | h f ih =>
  intro h
  have h0 := h f (by rw [pre_eq]; simp)
  cases f with
  | mk k nm l =>
   refine .mk h0.2.1 (fun hk => ?_) fun g hg => ih g hg fun x hx => h x ?_
   ·have := h0.2.2
    simp only [Fm.kind,Fm.name,hk,true_and,not_or] at this
    simpa using this.1
   ·rw [pre_eq]
    refine List.mem_cons_of_mem _ ?_
    have : ∀ l : List Fm,g ∈ l → x ∈ pres l := by
     intro l
     induction l with
     | nil => intro h; cases h
     | cons a r ihr =>
      intro h
      rw [pres_cons,List.mem_append]
      cases h with
      | head => exact .inl hx
      | tail _ h => exact .inr (ihr h)
    exact this l hg
end Go.Proofs.Yticchggapegnlaa
