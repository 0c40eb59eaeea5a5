import Derived.Test.YtcllmionhlmjfaaEQMB
import Derived.Test.YtcllmionhlmjfaaEQRF
import Derived.Test.YtcllmionhlmjfaaEPvRec
import Derived.Test.YtcllmionhlmjfaaETy
import Derived.Ground.NamesProg
import Derived.Shelf.Slices.In.CompactS
import Derived.Shelf.Slices.In.SortAlone
import Derived.Shelf.Slices.In.SortNone
import Derived.Sort.EveryDepth
import Derived.Sort.Grow
import Derived.Lib.RowBridge
import Derived.Sort.Walk0
set_option linter.unusedVariables false
set_option linter.unusedSimpArgs false
set_option maxRecDepth 100000
set_option maxHeartbeats 4000000
namespace Go.Proofs.Ytcllmionhlmjfaa
open Go Go.Pv
theorem said_inj {f g : Fm} (hf : Td f ∧ (pre f).length ≤ 200) (hg : Td g ∧ (pre g).length ≤ 200) (h : said f 1 = said g 1) : f = g := by
 have h1 := parse_said f hf.1 hf.2 (by have := said_size f hf.1.ok 1; omega)
 have h2 := parse_said g hg.1 hg.2 (by have := said_size g hg.1.ok 1; omega)
 rw [h, h2] at h1
 exact (Prod.mk.inj h1).1.symm
noncomputable def addE (had : List Fm) (x : Fm) : List Fm := if (had.any fun y => sameB y x) = true then had else had ++ [x]
theorem addE_len : ∀ (l had : List Fm), (l.foldl addE had).length ≤ had.length + l.length
 | [], had => by simp
 | x :: r, had => by
  rw [List.foldl_cons]
  have := addE_len r (addE had x)
  have h2 : (addE had x).length ≤ had.length + 1 := by unfold addE; split <;> simp
  simp only [List.length_cons]; omega
theorem any_same {had : List Fm} {x : Fm} : (had.any fun y => sameB y x) = true ↔ x ∈ had := by
 rw [List.any_eq_true]
 exact ⟨fun ⟨y, h, e⟩ => (sameB_iff.1 e) ▸ h, fun h => ⟨x, h, sameB_iff.2 rfl⟩⟩
theorem partsE_eq : ∀ (l had : List Fm), (∀ y ∈ l, Td y ∧ (pre y).length ≤ 200) → (∀ y ∈ had, Td y ∧ (pre y).length ≤ 200) → l.foldl addE had = had ++ partsS (had.map fun y => said y 1) l
 | [], had, _, _ => by rw [partsS]; simp
 | x :: r, had, hl, hh => by
  have hr : ∀ y ∈ r, Td y ∧ (pre y).length ≤ 200 := fun y hy => hl y (by simp [hy])
  rw [List.foldl_cons, partsS]
  by_cases hm : x ∈ had
  ·have h1 : addE had x = had := by unfold addE; rw [if_pos (any_same.2 hm)]
   have h2 : memB (said x 1) (had.map fun y => said y 1) = true := memB_iff.2 (List.mem_map.2 ⟨x, hm, rfl⟩)
   rw [h1, if_pos h2, partsE_eq r had hr hh]
  ·have h1 : addE had x = had ++ [x] := by unfold addE; rw [if_neg (fun h => hm (any_same.1 h))]
   have h2 : ¬ memB (said x 1) (had.map fun y => said y 1) = true := by
    rw [memB_iff, List.mem_map]
    rintro ⟨y, hy, e⟩
    exact hm (said_inj (hh y hy) (hl x (by simp)) e ▸ hy)
   rw [h1, if_neg h2, partsE_eq r _ hr (fun y hy => by
    rcases List.mem_append.1 hy with h | h
    ·exact hh y h
    ·rw [List.mem_singleton] at h; exact h ▸ hl x (by simp))]
   simp
def x43_T2 : XC := .seq (.reg [⟨some 38,.move (.tmp 3),none⟩,⟨some 2,.assign (.tmp 38),none⟩]) .ret
def x43_L2 : XC := .seq (.seq (.reg [⟨some 18,.move (.tmp 6),none⟩,⟨some 19,.move (.tmp 5),none⟩,⟨some 20,.call ⟨.builtin .len,#[.tmp 19],#[22]⟩,none⟩,⟨some 21,.binOp .lss 3 (.tmp 18) (.tmp 20) 3,none⟩]) (.cond (.tmp 21) .skip (.exit 2))) (.seq (.block 3 (.seq (.reg [⟨some 24,.move (.tmp 3),none⟩,⟨some 25,.move (.tmp 5),none⟩,⟨some 26,.move (.tmp 6),none⟩,⟨some 27,.indexAddr 22 (.tmp 25) (.tmp 26),none⟩,⟨some 28,.load 24 (.tmp 27),none⟩,⟨some 29,.call ⟨.value (.func 78),#[.tmp 24,.tmp 28],#[22,24]⟩,none⟩,⟨some 30,.unOp .not 4 (.tmp 29),none⟩]) (.cond (.tmp 30) (.reg [⟨some 31,.move (.tmp 3),none⟩,⟨some 32,.move (.tmp 5),none⟩,⟨some 33,.move (.tmp 6),none⟩,⟨some 34,.indexAddr 22 (.tmp 32) (.tmp 33),none⟩,⟨some 35,.load 24 (.tmp 34),none⟩,⟨some 36,.buildSlice 22 1 #[(0,.tmp 35)],none⟩,⟨some 37,.call ⟨.builtin .append,#[.tmp 31,.tmp 36],#[22,22]⟩,none⟩,⟨some 3,.assign (.tmp 37),none⟩]) .skip))) (.reg [⟨some 22,.move (.tmp 6),none⟩,⟨some 23,.binOp .add 3 (.tmp 22) (.const (.int .i64 1)) 3,none⟩,⟨some 6,.assign (.tmp 23),none⟩]))
def x43_L0 : XC := .seq (.seq (.reg [⟨some 7,.move (.tmp 4),none⟩,⟨some 8,.move (.tmp 0),none⟩,⟨some 9,.call ⟨.builtin .len,#[.tmp 8],#[22]⟩,none⟩,⟨some 10,.binOp .lss 3 (.tmp 7) (.tmp 9) 3,none⟩]) (.cond (.tmp 10) .skip (.exit 0))) (.seq (.block 1 (.seq (.reg [⟨some 13,.move (.tmp 0),none⟩,⟨some 14,.move (.tmp 4),none⟩,⟨some 15,.indexAddr 22 (.tmp 13) (.tmp 14),none⟩,⟨some 16,.load 24 (.tmp 15),none⟩,⟨some 17,.call ⟨.value (.func 47),#[.tmp 16,.const (.int .i64 100000)],#[24,3]⟩,none⟩,⟨some 5,.assign (.tmp 17),none⟩]) (.seq (.reg [⟨some 6,.assign (.const (.int .i64 0)),none⟩]) (.bloop 2 x43_L2)))) (.reg [⟨some 11,.move (.tmp 4),none⟩,⟨some 12,.binOp .add 3 (.tmp 11) (.const (.int .i64 1)) 3,none⟩,⟨some 4,.assign (.tmp 12),none⟩]))
def x43 : XC := .seq (.reg [⟨some 2,.assign (.const (.slice none 0 0)),none⟩]) (.seq (.reg [⟨some 3,.assign (.const (.slice none 0 0)),none⟩]) (.seq (.seq (.reg [⟨some 4,.assign (.const (.int .i64 0)),none⟩]) (.bloop 0 x43_L0)) (x43_T2)))
@[simp] theorem x43_s {C e s K} : type_of% (@X_at C e s K _ _ x43_T2.eq_1) ∧ type_of% (@X_at C e s K _ _ x43_L2.eq_1) ∧ type_of% (@X_at C e s K _ _ x43_L0.eq_1) ∧ type_of% (@X_at C e s K _ _ x43.eq_1) := ⟨X_at x43_T2.eq_1, X_at x43_L2.eq_1, X_at x43_L0.eq_1, X_at x43.eq_1⟩
def an43 : Ann := ⟨[], [(2, [(3, none, 3)], [0, 3, 4, 5, 6], [0, 3, 4]), (0, [(3, none, 3)], [0, 3, 4], [3])], []⟩
@[simp] theorem an43_a : an43.loopOf 2 = ([(3, none, 3)], [0, 3, 4, 5, 6], [0, 3, 4]) ∧ an43.loopOf 0 = ([(3, none, 3)], [0, 3, 4], [3]) := ⟨rfl, rfl⟩
theorem fi43 : FI Try.prog 43 (cxA an43) x43 [.tmp 2] Try.f43 := fiA Try.func43 mixed
theorem PartsIn_ref (f : Fm) (hf : Td f) (hl : (pre f).length ≤ 200) : CallOK Try.prog 43 [.list [frm f]] [] (.list ((partsS [] (pre f)).map frm)) [] := by
 have hw := walk_ref f 100000 (by omega) (by omega) []
 have hwl : walkL f 100000 = pre f := by
  rw [show (100000 : Int) = ((100000 : Nat) : Int) from rfl, walk_take, List.take_of_length_le (by omega)]
 rw [hwl] at hw
 have hp : partsS [] (pre f) = (pre f).foldl addE [] := by
  rw [partsE_eq _ [] (fun y hy => ⟨hf.pre hy, Nat.le_trans (pre_sub f hf.ok y hy).2.1 hl⟩) (fun y hy => by cases hy)]; rfl
 rw [hp]
 generalize hL : pre f = L at hw hl ⊢
 clear hwl hp
 refine fi43.op ?_
 ((refine Sg.h ?_); try repeat' ((first | (with_reducible first | refine brA ?_ | refine brE fun _ => ?_ | (refine spl ⟨?_, ?_⟩ <;> intro _))) <;> ((try simp -implicitDefEqProofs); (try simp -implicitDefEqProofs (disch := first | assumption | (try simp only [lens]); omega -splitDisjunctions)))))
 refine W_of fun Q hQ => ?_
 have q1 : Q [(0, .list [frm f]), (3, .sl 0 0 (L.foldl addE []).length), (4, .int .i64 1)] [.rows 3 ((L.foldl addE []).map frm)] := by
  apply hQ
  ((refine Sg.h ?_); try repeat' ((first | (with_reducible first | refine brA ?_ | refine brE fun _ => ?_ | (refine spl ⟨?_, ?_⟩ <;> intro _))) <;> ((try simp -implicitDefEqProofs); (try simp -implicitDefEqProofs (disch := first | assumption | (try simp only [lens]); omega -splitDisjunctions)))))
 apply hQ
 ((refine Sg.h ?_); try repeat' ((first | (with_reducible first | refine brA ?_ | refine brE fun _ => ?_ | (refine spl ⟨?_, ?_⟩ <;> intro _)) | refine clo hw ?_) <;> ((try simp -implicitDefEqProofs); (try simp -implicitDefEqProofs (disch := first | assumption | (try simp only [lens]); omega -splitDisjunctions)))))
 refine W_of fun Q2 hQ2 => ?_
 have main : ∀ n i, i + n = L.length → Q2 [(0, .list [frm f]), (3, .sl 0 0 ((L.take i).foldl addE []).length), (4, .int .i64 0), (5, .list (L.map frm)), (6, .int .i64 (i : Int))] [.rows 3 (((L.take i).foldl addE []).map frm)] := by
  intro n
  induction n with
  | zero =>
   intro i hi
   rw [List.take_of_length_le (by omega)]
   apply hQ2
   ((refine Sg.h ?_); try repeat' ((first | (with_reducible first | refine brA ?_ | refine brE fun _ => ?_ | (refine spl ⟨?_, ?_⟩ <;> intro _))) <;> ((try simp -implicitDefEqProofs); (try simp -implicitDefEqProofs (disch := first | assumption | (try simp only [lens]); omega -splitDisjunctions)))))
   simpa using q1
  | succ n ih =>
   intro i hi
   have hlt : i < L.length := by omega
   have ih := ih (i + 1) (by omega)
   rw [take_snoc hlt, List.foldl_append] at ih
   have hlen := addE_len (L.take i) []
   rw [List.length_take] at hlen
   generalize (L.take i).foldl addE [] = had at ih hlen ⊢
   simp only [List.foldl_cons, List.foldl_nil, addE] at ih
   have hh := Has_ref had L[i]
   have hlen : had.length ≤ 200 := by simp at hlen; omega
   generalize hB : (had.any fun y => sameB y L[i]) = B at hh ih
   apply hQ2
   cases B with
   | true =>
    rw [if_pos rfl] at ih
    ((refine Sg.h ?_); try repeat' ((first | (with_reducible first | refine brA ?_ | refine brE fun _ => ?_ | (refine spl ⟨?_, ?_⟩ <;> intro _)) | (refine CL.see (hh) ?_ ?_ ?_; (focus (first | (simp; done) | (simp [scn]; done))); (focus (simp [flats]; done))) | (refine CD.see (hh) ?_ ?_ ?_; (focus (first | (simp; done) | (simp [scn]; done))); (focus (simp [flats]; done)))) <;> ((try simp -implicitDefEqProofs); (try simp -implicitDefEqProofs (disch := first | assumption | (try simp only [lens]); omega -splitDisjunctions)))))
    simpa using ih
   | false =>
    rw [if_neg (by simp)] at ih
    ((refine Sg.h ?_); try repeat' ((first | (with_reducible first | refine brA ?_ | refine brE fun _ => ?_ | (refine spl ⟨?_, ?_⟩ <;> intro _)) | (refine CL.see (hh) ?_ ?_ ?_; (focus (first | (simp; done) | (simp [scn]; done))); (focus (simp [flats]; done))) | (refine CD.see (hh) ?_ ?_ ?_; (focus (first | (simp; done) | (simp [scn]; done))); (focus (simp [flats]; done)))) <;> ((try simp -implicitDefEqProofs); (try simp -implicitDefEqProofs (disch := first | assumption | (try simp only [lens]); omega -splitDisjunctions)))))
    simpa using ih
 refine at2 (main _ 0 (Nat.zero_add _)) ?_ ?_ <;> simp
def x39 : XC := .seq (.reg [⟨some 1,.box 24 (.tmp 0),none⟩,⟨some 2,.assign (.const (.slice none 0 0)),none⟩,⟨some 3,.alloc 29,none⟩]) (.seq (.seq (.reg [⟨some 5,.load 24 (.tmp 1),none⟩,⟨some 6,.call ⟨.value (.func 14),#[.tmp 5],#[24]⟩,none⟩,⟨some 4,.alloc 29,none⟩,⟨none,.store 29 (.tmp 4) (.tmp 6),none⟩]) (.seq (.reg [⟨some 7,.fieldAddr 29 (.tmp 4) 0,none⟩,⟨some 8,.load 3 (.tmp 7),none⟩,⟨some 9,.binOp .neq 3 (.tmp 8) (.const (.int .i64 0)) 3,none⟩]) (.cond (.tmp 9) (.seq (.drawn 3 [⟨some 10,.load 29 (.tmp 4),none⟩,⟨some 2,.assign (.const (.slice none 0 0)),none⟩,⟨none,.store 29 (.tmp 3) (.tmp 10),none⟩]) .ret) .skip))) (.seq (.reg [⟨some 11,.load 24 (.tmp 1),none⟩,⟨some 12,.buildSlice 22 1 #[(0,.tmp 11)],none⟩,⟨some 13,.call ⟨.value (.func 77),#[.tmp 12],#[22]⟩,none⟩,⟨some 14,.build 29 #[],none⟩,⟨some 2,.assign (.tmp 13),none⟩,⟨none,.store 29 (.tmp 3) (.tmp 14),none⟩]) .ret))
@[simp] theorem x39_s {C e s K} : type_of% (@X_at C e s K _ _ x39.eq_1) := X_at x39.eq_1
def an39 : Ann := ⟨[], [], []⟩
@[simp] theorem an39_a : an39.clsOf 3 = .draw ∧ an39.frzOf 3 = [] := ⟨rfl, rfl⟩
theorem fi39 : FI Try.prog 39 (cxA an39) x39 [.tmp 2, .cell 3 29] Try.f39 := fiA Try.func39 mixed
theorem Parts_bad (f : Fm) (h : (formulaCheck f).1 ≠ 0) : CallOK Try.prog 39 [.agg (frm f)] [] (.tuple [.nilsl, .agg [.int .i64 (formulaCheck f).1, .int .i64 (formulaCheck f).2]]) [] := by
 have h1 := check_formula f []
 generalize (formulaCheck f).1 = c at *
 generalize (formulaCheck f).2 = a at *
 refine fi39.op ?_
 ((refine Sg.h ?_); try repeat' ((first | (with_reducible first | refine brA ?_ | refine brE fun _ => ?_ | (refine spl ⟨?_, ?_⟩ <;> intro _)) | refine clo h1 ?_) <;> ((try simp -implicitDefEqProofs [h]); (try simp -implicitDefEqProofs (disch := first | assumption | (try simp only [lens]); omega -splitDisjunctions) [h]))))
theorem Parts_ok (f : Fm) (h : formulaCheck f = (0, 0)) : CallOK Try.prog 39 [.agg (frm f)] [] (.tuple [.list ((partsS [] (pre f)).map frm), .agg [.int .i64 0, .int .i64 0]]) [] := by
 have h1 := check_formula f []
 have hz : (formulaCheck f).1 = 0 := by rw [h]
 have h2 := PartsOf_formula f (td_check hz).ok ((formulaCheck_iff f).1 hz).2
 rw [h] at h1
 generalize partsS [] (pre f) = s at *
 refine fi39.op ?_
 ((refine Sg.h ?_); try repeat' ((first | (with_reducible first | refine brA ?_ | refine brE fun _ => ?_ | (refine spl ⟨?_, ?_⟩ <;> intro _)) | refine clo h1 ?_) <;> ((try simp -implicitDefEqProofs); (try simp -implicitDefEqProofs (disch := first | assumption | (try simp only [lens]); omega -splitDisjunctions)))))
 refine CL.giv [3] ?_
 ((refine Sg.h ?_); try repeat' ((first | (with_reducible first | refine brA ?_ | refine brE fun _ => ?_ | (refine spl ⟨?_, ?_⟩ <;> intro _)) | refine clo h2 ?_) <;> ((try simp -implicitDefEqProofs); (try simp -implicitDefEqProofs (disch := first | assumption | (try simp only [lens]); omega -splitDisjunctions)))))
end Go.Proofs.Ytcllmionhlmjfaa
namespace Go.Proofs
open Go.Shelf
def Try.laysSort_ren : Go.Shelf.Ren := ⟨fun | 190 => 103 | 125 => 127 | 258 => 126 | 128 => 144 | 129 => 145 | 302 => 135 | 303 => 136 | 304 => 137 | 305 => 138 | 306 => 139 | 307 => 140 | 308 => 141 | 309 => 142 | 310 => 143 | 333 => 151 | 329 => 152 | 330 => 153 | 334 => 154 | 335 => 155 | 336 => 156 | 344 => 162 | n => n, fun | 31 => 65 | 9 => 9 | 3 => 3 | 46 => 159 | 0 => 0 | 51 => 172 | 53 => 174 | 4 => 4 | 183 => 166 | 182 => 165 | 131 => 162 | 5 => 5 | 218 => 185 | 222 => 189 | 228 => 194 | 229 => 146 | n => n, fun | n => n⟩
theorem Try.laysSort : Go.Proofs.Lays.n190 Try.prog Try.laysSort_ren := {
 mixed := by kernel_rfl,
 f125 := Try.func127.trans (congrArg some (by kernel_rfl)),
 f128 := Try.func144.trans (congrArg some (by kernel_rfl)),
 f129 := Try.func145.trans (congrArg some (by kernel_rfl)),
 f190 := Try.func103.trans (congrArg some (by kernel_rfl)),
 f258 := Try.func126.trans (congrArg some (by kernel_rfl)),
 f302 := Try.func135.trans (congrArg some (by kernel_rfl)),
 f303 := Try.func136.trans (congrArg some (by kernel_rfl)),
 f304 := Try.func137.trans (congrArg some (by kernel_rfl)),
 f305 := Try.func138.trans (congrArg some (by kernel_rfl)),
 f306 := Try.func139.trans (congrArg some (by kernel_rfl)),
 f307 := Try.func140.trans (congrArg some (by kernel_rfl)),
 f308 := Try.func141.trans (congrArg some (by kernel_rfl)),
 f309 := Try.func142.trans (congrArg some (by kernel_rfl)),
 f310 := Try.func143.trans (congrArg some (by kernel_rfl)),
 f329 := Try.func152.trans (congrArg some (by kernel_rfl)),
 f330 := Try.func153.trans (congrArg some (by kernel_rfl)),
 f333 := Try.func151.trans (congrArg some (by kernel_rfl)),
 f334 := Try.func154.trans (congrArg some (by kernel_rfl)),
 f335 := Try.func155.trans (congrArg some (by kernel_rfl)),
 f336 := Try.func156.trans (congrArg some (by kernel_rfl)),
 f344 := Try.func162.trans (congrArg some (by kernel_rfl)),
 t0 := Try.underlying0,
 a0 := Try.isAgg0,
 z0 := Try.sizeOf0,
 v0 := Try.zeroValue0,
 t3 := Try.underlying3,
 a3 := Try.isAgg3,
 z3 := Try.sizeOf3,
 v3 := Try.zeroValue3,
 t4 := Try.underlying4,
 a4 := Try.isAgg4,
 z4 := Try.sizeOf4,
 v4 := Try.zeroValue4,
 t5 := Try.underlying5,
 a5 := Try.isAgg5,
 z5 := Try.sizeOf5,
 v5 := Try.zeroValue5,
 t9 := Try.underlying9,
 a9 := Try.isAgg9,
 z9 := Try.sizeOf9,
 v9 := Try.zeroValue9,
 t31 := Try.underlying65,
 a31 := Try.isAgg65,
 z31 := Try.sizeOf65,
 v31 := Try.zeroValue65,
 t46 := Try.underlying159,
 a46 := Try.isAgg159,
 z46 := Try.sizeOf159,
 v46 := Try.zeroValue159,
 t51 := Try.underlying172,
 a51 := Try.isAgg172,
 z51 := Try.sizeOf172,
 v51 := Try.zeroValue172,
 t53 := Try.underlying174,
 a53 := Try.isAgg174,
 z53 := Try.sizeOf174,
 v53 := Try.zeroValue174,
 t131 := Try.underlying162,
 a131 := Try.isAgg162,
 z131 := Try.sizeOf162,
 v131 := Try.zeroValue162,
 t182 := Try.underlying165,
 a182 := Try.isAgg165,
 z182 := Try.sizeOf165,
 v182 := Try.zeroValue165,
 t183 := Try.underlying166,
 a183 := Try.isAgg166,
 z183 := Try.sizeOf166,
 v183 := Try.zeroValue166,
 t218 := Try.underlying185,
 a218 := Try.isAgg185,
 z218 := Try.sizeOf185,
 v218 := Try.zeroValue185,
 t222 := Try.underlying189,
 a222 := Try.isAgg189,
 z222 := Try.sizeOf189,
 v222 := Try.zeroValue189,
 t228 := Try.underlying194,
 a228 := Try.isAgg194,
 z228 := Try.sizeOf194,
 v228 := Try.zeroValue194,
 t229 := Try.underlying146,
 a229 := Try.isAgg146,
 z229 := Try.sizeOf146,
 v229 := Try.zeroValue146 }
def Try.laysCompact_ren : Go.Shelf.Ren := ⟨fun | 194 => 104 | n => n, fun | 31 => 65 | 9 => 9 | 3 => 3 | 4 => 4 | 0 => 0 | n => n, fun | n => n⟩
theorem Try.laysCompact : Go.Proofs.Lays.n194 Try.prog Try.laysCompact_ren := {
 mixed := by kernel_rfl,
 f194 := Try.func104.trans (congrArg some (by kernel_rfl)),
 t0 := Try.underlying0,
 a0 := Try.isAgg0,
 z0 := Try.sizeOf0,
 v0 := Try.zeroValue0,
 t3 := Try.underlying3,
 a3 := Try.isAgg3,
 z3 := Try.sizeOf3,
 v3 := Try.zeroValue3,
 t4 := Try.underlying4,
 a4 := Try.isAgg4,
 z4 := Try.sizeOf4,
 v4 := Try.zeroValue4,
 t9 := Try.underlying9,
 a9 := Try.isAgg9,
 z9 := Try.sizeOf9,
 v9 := Try.zeroValue9,
 t31 := Try.underlying65,
 a31 := Try.isAgg65,
 z31 := Try.sizeOf65,
 v31 := Try.zeroValue65 }
end Go.Proofs
namespace Go.Pv
open Go Go.Sort Go.Proofs
set_option linter.unusedVariables false
set_option linter.unusedSimpArgs false
def ofL (x : List UInt8) : ByteArray := ⟨x.toArray⟩
def toL (b : ByteArray) : List UInt8 := b.data.toList
@[simp] theorem ofL_toL (b : ByteArray) : ofL (toL b) = b := by cases b; simp [ofL, toL]
@[simp] theorem toL_ofL (x : List UInt8) : toL (ofL x) = x := by simp [ofL, toL]
def sortL (l : List ByteArray) : List ByteArray := ((l.map toL).mergeSort fun x y => decide (x ≤ y)).map ofL
def compL (l : List ByteArray) : List ByteArray := (Lib.compact (l.map toL)).map ofL
theorem sortL_length (l : List ByteArray) : (sortL l).length = l.length := by simp [sortL, List.length_mergeSort]
theorem sortL_toL (l : List ByteArray) : (sortL l).map toL = (l.map toL).mergeSort fun x y => decide (x ≤ y) := by
 unfold sortL; rw [List.map_map]; exact (List.map_congr_left fun x _ => toL_ofL x).trans (List.map_id _)
theorem compL_toL (l : List ByteArray) : (compL l).map toL = Lib.compact (l.map toL) := by
 unfold compL; rw [List.map_map]; exact (List.map_congr_left fun x _ => toL_ofL x).trans (List.map_id _)
theorem compL_length (l : List ByteArray) : (compL l).length ≤ l.length := by
 have := Lib.compact_length_le (l.map toL)
 simpa [compL] using this
theorem mem_of_compact {zs : List (List UInt8)} {x : List UInt8} (h : x ∈ Lib.compact zs) : x ∈ zs := by
 unfold Lib.compact Lib.compactUpTo at h
 obtain ⟨j, hj, rfl⟩ := List.mem_map.1 h
 rw [List.mem_filter, List.mem_range] at hj
 rw [getElem!_pos _ _ (by simpa using hj.1)]; simp
section
variable {C : Ctx} {p : PHeap} {σ : Sig} {s : Store} {w : World}
theorem SR.grown (h : SR C p σ s w) (os : Array Obj) : SR C p σ s (Go.Sort.grow w os) := by
 have hold : ∀ b, b < w.heap.size → (w.heap ++ os)[b]? = w.heap[b]? := fun b hb => Array.getElem?_append_left hb
 exact {
  pubIn := fun b o hb => by
   have := h.pubIn b o hb
   show (w.heap ++ os)[b]? = _
   rw [hold b (by
    rcases Nat.lt_or_ge b w.heap.size with h1 | h1
    ·exact h1
    ·rw [Array.getElem?_eq_none h1] at this; cases this)]
   exact this
  obj := fun i o hi => (h.obj i o hi).mono PHeap.le.rfl' Sig.le.rfl' (fun l h1 h2 h3 => ⟨by
   show (w.heap ++ os)[l.b]? = _
   refine hold _ ?_
   exact (ObjOK.alive h.obj ⟨_, hi, h1, h2, h3⟩).2, rfl⟩)
  inj := h.inj
  sig := h.sig
  os := h.os
  tape := h.tape
  output := h.output
  size := by show _ ≤ (w.heap ++ os).size; rw [Array.size_append]; have := h.size; omega
  frame := fun b hb hd => by
   show (w.heap ++ os)[b]? = _ ∧ _
   rw [hold b (Nat.lt_of_lt_of_le hb h.size)]
   exact h.frame b hb hd
  own := h.own
  ple := h.ple
  sle := h.sle }
theorem putRow_eq {b o : Nat} {ca : Array Value} {ty : TypeId} (hb : w.heap[b]? = some (.cells ca ty (0, 0))) (zs : List ByteArray) (hsz : o + zs.length ≤ ca.size) :
  putRow encStr w b o (zs.map toL).toArray = { w with heap := w.heap.setIfInBounds b (.cells (spliceA ca o (zs.map Value.string)) ty (0, 0)) } := by
 unfold putRow mapBlock
 congr 1
 apply Array.ext_getElem?
 intro i
 rw [Array.getElem?_modify, Array.getElem?_setIfInBounds]
 by_cases hi : b = i
 ·subst hi
  rw [if_pos rfl, if_pos rfl, hb]
  have hlt : b < w.heap.size := by
   rcases Nat.lt_or_ge b w.heap.size with h1 | h1
   ·exact h1
   ·rw [Array.getElem?_eq_none h1] at hb; cases hb
  rw [if_pos hlt]
  simp only [Option.map_some, onCells]
  congr 2
  apply Array.ext_getElem?
  intro j
  rw [spliceA_get _ _ _ _ (by simpa using hsz)]
  simp only [putCells, Array.getElem?_mapIdx, List.size_toArray, List.length_map]
  by_cases hj : o ≤ j ∧ j < o + zs.length
  ·rw [if_pos hj]
   have hjc : j < ca.size := by omega
   rw [Array.getElem?_eq_getElem hjc]
   simp only [Option.map_some, if_pos hj]
   have hjz : j - o < zs.length := by omega
   rw [List.getElem?_map, List.getElem?_eq_getElem hjz]
   simp only [Option.map_some, Option.some.injEq]
   rw [getElem!_pos _ _ (by simpa using hjz)]
   simp only [List.getElem_toArray, List.getElem_map]
   show Value.string ⟨(toL _).toArray⟩ = _
   rw [show (⟨(toL zs[j - o]).toArray⟩ : ByteArray) = ofL (toL zs[j - o]) from rfl, ofL_toL]
  ·rw [if_neg hj]
   cases hc : ca[j]? with
   | none => rfl
   | some v => simp only [Option.map_some, if_neg hj]
 ·rw [if_neg hi, if_neg hi]
theorem SR.putStrs (h : SR C p σ s w) {i : Nat} {loc : Loc} {l l2 : List ByteArray} (hi : s[i]? = some (.rows 1 (l.map strRow))) (hσ : σ i = some loc) (hn : 0 < l.length) (hl : l2.length = l.length) (hok : ∀ b ∈ l2, b.size ≤ maxLen) :
  SR C p σ (s.set i (.rows 1 (l2.map strRow))) (putRow encStr w loc.b loc.o (l2.map toL).toArray) := by
 obtain ⟨hn', hle, ca, ty, hb, hsz, hR⟩ := h.rows hi hσ (by intro e; simp at e; subst e; simp at hn)
 obtain ⟨l', hl1, hl2, _⟩ := h.obj i _ hi
 rw [hσ] at hl1; cases hl1
 rw [List.length_map] at hle
 rw [hl2] at hsz hR
 rw [putRow_eq hb l2 (by omega)]
 have := h.putRows (off := 0) (ys := l2.map strRow) (vs := l2.map Value.string) hi hσ hn' hb (by rw [hl2]; exact hsz) (by simp [hl]) (by rw [hl2]; exact hR) (by simp [hl2]) (by
  rw [hl2]
  refine ⟨fun r row hr => ?_, fun r row j v c hr hj hc => ?_⟩
  ·rw [List.getElem?_map, Option.map_eq_some_iff] at hr
   obtain ⟨b, _, rfl⟩ := hr; rfl
  ·rw [List.getElem?_map, Option.map_eq_some_iff] at hr
   obtain ⟨b, hb2, rfl⟩ := hr
   obtain rfl : j = 0 := by have := lt_of_getElem? hj; simp [strRow] at this; omega
   simp only [strRow, List.getElem?_cons_zero, Option.some.injEq] at hj
   subst hj
   rw [Nat.zero_add, Nat.mul_one, Nat.add_zero, List.getElem?_toArray, List.getElem?_map, hb2] at hc
   simp only [Option.map_some, Option.some.injEq] at hc
   subst hc
   exact .str (hok b (List.mem_of_getElem? hb2)))
 rw [Nat.zero_mul, Nat.add_zero] at this
 have e : Pv.putRows (l.map strRow) (l2.map strRow) 0 = l2.map strRow := by
  simp [Pv.putRows, hl]
 rw [e] at this
 exact this
theorem holds_strs (h : Base p σ s w) {i : Nat} {loc : Loc} {l : List ByteArray} (hi : s[i]? = some (.rows 1 (l.map strRow))) (hσ : σ i = some loc) (hn : 0 < l.length) :
  Holds encStr w loc.b loc.o (l.map toL).toArray ∧ loc.b < w.heap.size ∧ ∀ b ∈ l, b.size ≤ maxLen := by
 have h := SR.start h
 obtain ⟨hn', hle, ca, ty, hb, hsz, hR⟩ := h.rows hi hσ (by intro e; simp at e; subst e; simp at hn)
 obtain ⟨l', hl1, hl2, _⟩ := h.obj i _ hi
 rw [hσ] at hl1; cases hl1
 rw [List.length_map] at hle
 rw [hl2] at hsz hR
 have hlt : loc.b < w.heap.size := by
  rcases Nat.lt_or_ge loc.b w.heap.size with h1 | h1
  ·exact h1
  ·rw [Array.getElem?_eq_none h1] at hb; cases hb
 have hcell : ∀ (j : Nat) (hj : j < l.length), ca[loc.o + j]? = some (.string l[j]) ∧ l[j].size ≤ maxLen := by
  intro j hj
  have hjc : loc.o + j < ca.size := by omega
  have := hR.rel j (strRow l[j]) 0 (.str l[j]) ca[loc.o + j] (by rw [List.getElem?_map, List.getElem?_eq_getElem hj]; rfl) rfl (by rw [Nat.mul_one, Nat.add_zero]; exact Array.getElem?_eq_getElem hjc)
  rw [Array.getElem?_eq_getElem hjc]
  generalize ca[loc.o + j] = c at this
  cases this with
  | str h => exact ⟨rfl, h⟩
 refine ⟨fun j hj => ?_, hlt, fun b hb => ?_⟩
 ·simp only [List.size_toArray, List.length_map] at hj
  obtain ⟨h1, _⟩ := hcell j hj
  refine ⟨?_, ?_⟩
  ·unfold World.cell?
   rw [hb]
   simp only [Option.isSome_none, Bool.false_eq_true, if_false]
   rw [h1, getElem!_pos _ _ (by simpa using hj)]
   simp only [List.getElem_toArray, List.getElem_map]
   show _ = some (Value.string (ofL (toL l[j])))
   rw [ofL_toL]
  ·unfold World.frozen?
   rw [hb]
   simp
 ·obtain ⟨j, hj, rfl⟩ := List.getElem_of_mem hb
  exact (hcell j hj).2
end
theorem set_same {s : Store} {i : Nat} {o : PObj} (h : s[i]? = some o) : s.set i o = s := by
 apply List.ext_getElem?
 intro j
 rw [List.getElem?_set]
 split
 ·subst_vars
  rw [if_pos (lt_of_getElem? h), h]
 ·rfl
theorem sort_strs (s : Store) (i : Nat) (l : List ByteArray) (hi : s[i]? = some (.rows 1 (l.map strRow))) (hl : l.length < 4611686018427387904) :
  CallOK Go.Proofs.Try.prog 103 [.sl i 0 l.length] s (.tuple []) (s.set i (.rows 1 ((sortL l).map strRow))) := by
 intro pub σ w cargs hb ha
 obtain ⟨c, rfl⟩ : ∃ c, cargs = #[c] := by
  have := ha.1
  match cargs, this with
  | ⟨[c]⟩, _ => exact ⟨c, rfl⟩
 have hr := ha.2 0 _ _ rfl rfl
 cases hr with
 | sl hσ hlen hcap ha2 =>
  rename_i loc ad cap
  by_cases h0 : l.length = 0
  ·have hle : l = [] := List.length_eq_zero_iff.1 h0
   subst hle
   refine Calls.mono (calls_of_every_depth fun D => AnyS.slices_Sort_string_none_alone Go.Proofs.Try.laysSort D ad cap w) ?_
   rintro e w' ⟨rfl, rfl⟩
   refine ⟨_, pub, σ, rfl, ?_, .tuple rfl fun j v c h => by simp at h⟩
   rw [show (sortL []).map strRow = [] from by simp [sortL], set_same (by simpa using hi)]
   exact SR.start hb
  ·obtain ⟨rfl, hn⟩ := ha2 (by omega)
   obtain ⟨hH, hlt, hmx⟩ := holds_strs hb hi hσ (by omega)
   rw [Nat.zero_mul, Nat.add_zero]
   have hc := calls_of_every_depth fun D => AnyS.slices_Sort_string_alone Go.Proofs.Try.laysSort D loc.b loc.o cap (l.map toL) w hH hlt (by simpa using hl)
   rw [List.length_map] at hc
   refine Calls.mono hc ?_
   rintro e w' ⟨rfl, n, os, rfl⟩
   refine ⟨_, pub, σ, rfl, ?_, .tuple rfl fun j v c h => by simp at h⟩
   rw [← sortL_toL]
   refine SR.grown ?_ os
   refine SR.putStrs (l := l) (l2 := sortL l) ((SR.start hb).drawn (w' := Go.Sort.ahead w n) rfl rfl rfl rfl) hi hσ (by omega) (sortL_length l) fun b hbm => ?_
   unfold sortL at hbm
   obtain ⟨x, hx, rfl⟩ := List.mem_map.1 hbm
   rw [List.mem_mergeSort] at hx
   obtain ⟨b, hb2, rfl⟩ := List.mem_map.1 hx
   rw [ofL_toL]
   exact hmx b hb2
theorem compact_strs (s : Store) (i : Nat) (l : List ByteArray) (hi : s[i]? = some (.rows 1 (l.map strRow))) (hl : l.length < 4611686018427387904) :
  CallOK Go.Proofs.Try.prog 104 [.sl i 0 l.length] s (.sl i 0 (compL l).length) (s.set i (.rows 1 ((compL l ++ List.replicate (l.length - (compL l).length) (⟨#[]⟩ : ByteArray)).map strRow))) := by
 intro pub σ w cargs hb ha
 obtain ⟨c, rfl⟩ : ∃ c, cargs = #[c] := by
  have := ha.1
  match cargs, this with
  | ⟨[c]⟩, _ => exact ⟨c, rfl⟩
 have hr := ha.2 0 _ _ rfl rfl
 cases hr with
 | sl hσ hlen hcap ha2 =>
  rename_i loc ad cap
  by_cases h0 : l.length = 0
  ·have hle : l = [] := List.length_eq_zero_iff.1 h0
   subst hle
   refine Calls.mono (calls_of_every_depth fun D => AnyS.slices_Compact_string_empty_in Go.Proofs.Try.laysCompact D ad cap w) ?_
   rintro e w' ⟨rfl, rfl⟩
   have hce : compL [] = [] := List.length_eq_zero_iff.1 (Nat.le_zero.1 (compL_length []))
   refine ⟨_, pub, σ, rfl, ?_, ?_⟩
   ·rw [hce]
    simp only [List.length_nil, Nat.sub_self, List.replicate_zero, List.append_nil, List.map_nil]
    rw [set_same (by simpa using hi)]
    exact SR.start hb
   ·rw [hce]; exact .sl hσ hlen hcap ha2
  ·obtain ⟨rfl, hn⟩ := ha2 (by omega)
   obtain ⟨hH, hlt, hmx⟩ := holds_strs hb hi hσ (by omega)
   rw [Nat.zero_mul, Nat.add_zero]
   have hc := calls_of_every_depth fun D => AnyS.slices_Compact_string_in Go.Proofs.Try.laysCompact D loc.b loc.o cap (l.map toL) w hH (by simp; omega) (by simpa using hlen)
   rw [List.length_map] at hc
   refine Calls.mono hc ?_
   rintro e w' ⟨rfl, n, rfl⟩
   have hcl : (Lib.compact (l.map toL)).length = (compL l).length := by simp [compL]
   rw [hcl]
   refine ⟨_, pub, σ, rfl, ?_, ?_⟩
   ·have he : Lib.compact (l.map toL) ++ List.replicate (l.length - (compL l).length) [] = (compL l ++ List.replicate (l.length - (compL l).length) (⟨#[]⟩ : ByteArray)).map toL := by
     rw [List.map_append, compL_toL]; simp [toL]
    rw [he]
    have hcle := compL_length l
    refine SR.putStrs ((SR.start hb).drawn (w' := Go.Sort.ahead w n) rfl rfl rfl rfl) hi hσ (by omega) (by simp; omega) fun b hbm => ?_
    rcases List.mem_append.1 hbm with hbm | hbm
    ·unfold compL at hbm
     obtain ⟨x, hx, rfl⟩ := List.mem_map.1 hbm
     have hx2 := mem_of_compact hx
     obtain ⟨b, hb2, rfl⟩ := List.mem_map.1 hx2
     rw [ofL_toL]
     exact hmx b hb2
    ·rw [List.mem_replicate] at hbm
     rw [hbm.2]; simp [maxLen]
   ·have hcle := compL_length l
    refine .sl hσ (by omega) hcap fun h => ⟨by rw [Nat.zero_mul, Nat.add_zero], hn⟩
theorem sort_strs' {s : Store} {i n : Nat} (l : List ByteArray) (hi : s[i]? = some (.rows 1 (l.map strRow))) (hn : l.length = n) (hl : n ≤ 1000000) :
  CallOK Go.Proofs.Try.prog 103 [.sl i 0 n] s (.tuple []) (s.set i (.rows 1 ((sortL l).map strRow))) := by
 subst hn; exact sort_strs s i l hi (by omega)
theorem compact_strs' {s : Store} {i n : Nat} (l : List ByteArray) (hi : s[i]? = some (.rows 1 (l.map strRow))) (hn : l.length = n) (hl : n ≤ 1000000) :
  CallOK Go.Proofs.Try.prog 104 [.sl i 0 n] s (.sl i 0 (compL l).length) (s.set i (.rows 1 ((compL l ++ List.replicate (n - (compL l).length) (⟨#[]⟩ : ByteArray)).map strRow))) := by
 subst hn; exact compact_strs s i l hi (by omega)
end Go.Pv
namespace Go.Pv
open Go Go.Lib
def Ris (l : List ByteArray) : Prop := l.Pairwise fun a b => toL a < toL b
theorem toL_inj {a b : ByteArray} (h : toL a = toL b) : a = b := by rw [← ofL_toL a, ← ofL_toL b, h]
theorem lt_tri (a b : List UInt8) : a < b ∨ a = b ∨ b < a := by
 rcases List.le_total a b with h | h
 ·by_cases e : a = b
  ·exact .inr (.inl e)
  ·exact .inl (Decidable.byContradiction fun hn => e (List.le_antisymm h (List.not_lt.1 hn)))
 ·by_cases e : a = b
  ·exact .inr (.inl e)
  ·exact .inr (.inr (Decidable.byContradiction fun hn => e (List.le_antisymm (List.not_lt.1 hn) h)))
theorem lt_irr (a : List UInt8) : ¬ a < a := List.lt_irrefl a
theorem lt_tr {a b c : List UInt8} (h : a < b) (g : b < c) : a < c := List.lt_trans h g
theorem ris_unique : ∀ {l l2 : List ByteArray}, Ris l → Ris l2 → (∀ x, x ∈ l ↔ x ∈ l2) → l = l2
 | [], [], _, _, _ => rfl
 | [], b :: r, _, _, h => by have := (h b).2 List.mem_cons_self; cases this
 | a :: r, [], _, _, h => by have := (h a).1 List.mem_cons_self; cases this
 | a :: r, b :: r2, h1, h2, h => by
  unfold Ris at h1 h2
  rw [List.pairwise_cons] at h1 h2
  have hab : a = b := by
   rcases List.mem_cons.1 ((h a).1 List.mem_cons_self) with e | e
   ·exact e
   ·rcases List.mem_cons.1 ((h b).2 List.mem_cons_self) with e2 | e2
    ·exact e2.symm
    ·exact absurd (lt_tr (h1.1 b e2) (h2.1 a e)) (lt_irr _)
  subst hab
  rw [ris_unique h1.2 h2.2 fun x => ?_]
  constructor
  ·intro hx
   rcases List.mem_cons.1 ((h x).1 (List.mem_cons_of_mem _ hx)) with e | e
   ·subst e; exact absurd (h1.1 x hx) (lt_irr _)
   ·exact e
  ·intro hx
   rcases List.mem_cons.1 ((h x).2 (List.mem_cons_of_mem _ hx)) with e | e
   ·subst e; exact absurd (h2.1 x hx) (lt_irr _)
   ·exact e
theorem comp_upTo (zs : List (List UInt8)) (hs : zs.Pairwise fun a b => a ≤ b) : ∀ m, m ≤ zs.length → (∀ x, x ∈ compactUpTo zs.toArray m ↔ x ∈ zs.take m) ∧ (compactUpTo zs.toArray m).Pairwise fun a b => a < b := by
 intro m
 induction m with
 | zero => intro _; simp [compactUpTo]
 | succ m ih =>
  intro hm
  obtain ⟨h1, h2⟩ := ih (by omega)
  have hml : m < zs.length := by omega
  have hget : zs.toArray[m]! = zs[m] := by rw [getElem!_pos _ _ (by simpa using hml)]; simp
  rw [compactUpTo_succ, List.take_add_one, List.getElem?_eq_getElem hml]
  simp only [Option.toList]
  have hord : ∀ i j (hi : i < zs.length) (hj : j < zs.length), i < j → zs[i] ≤ zs[j] := fun i j hi hj hij => List.pairwise_iff_getElem.1 hs i j hi hj hij
  by_cases hk : keeps zs.toArray m = true
  ·rw [if_pos hk, hget]
   refine ⟨fun x => by rw [List.mem_append, List.mem_append, h1], ?_⟩
   rw [List.pairwise_append]
   refine ⟨h2, List.pairwise_singleton _ _, fun a ha b hb => ?_⟩
   rw [List.mem_singleton] at hb
   subst hb
   rw [h1] at ha
   obtain ⟨i, hi, rfl⟩ := List.getElem_of_mem ha
   rw [List.length_take] at hi
   rw [List.getElem_take]
   have hle := hord i m (by omega) hml (by omega)
   rcases lt_tri zs[i] zs[m] with h | h | h
   ·exact h
   ·exfalso
    simp only [keeps, decide_eq_true_eq] at hk
    rcases hk with hk | hk
    ·omega
    ·rw [hget, getElem!_pos _ _ (by simp; omega)] at hk
     simp only [List.getElem_toArray] at hk
     apply hk
     have g1 := hord (m - 1) m (by omega) hml (by omega)
     by_cases e : i = m - 1
     ·subst e; exact h.symm
     ·have g2 := hord i (m - 1) (by omega) (by omega) (by omega)
      rw [h] at g2
      exact List.le_antisymm g2 g1
   ·exact absurd h (List.not_lt.2 hle)
  ·rw [if_neg hk, List.append_nil]
   refine ⟨fun x => ?_, h2⟩
   rw [h1, List.mem_append, List.mem_singleton]
   constructor
   ·exact .inl
   ·rintro (h | rfl)
    ·exact h
    ·simp only [keeps, decide_eq_true_eq, not_or, Decidable.not_not] at hk
     obtain ⟨h0, hk⟩ := hk
     rw [hget, getElem!_pos _ _ (by simp; omega)] at hk
     simp only [List.getElem_toArray] at hk
     rw [hk]
     rw [List.mem_take_iff_getElem]
     exact ⟨m - 1, by omega, rfl⟩
theorem comp_ok (l : List ByteArray) : Ris (compL (sortL l)) ∧ ∀ x, x ∈ compL (sortL l) ↔ x ∈ l := by
 have hs : ((sortL l).map toL).Pairwise fun a b => a ≤ b := by
  rw [sortL_toL]
  have := List.pairwise_mergeSort (le := fun x y : List UInt8 => decide (x ≤ y)) (fun a b c h1 h2 => by simpa using List.le_trans (by simpa using h1) (by simpa using h2)) (fun a b => by simpa using List.le_total a b) (l.map toL)
  simpa using this
 obtain ⟨h1, h2⟩ := comp_upTo _ hs ((sortL l).map toL).length (Nat.le_refl _)
 constructor
 ·unfold Ris compL
  rw [List.pairwise_map]
  refine h2.imp fun h => ?_
  rw [toL_ofL, toL_ofL]; exact h
 ·intro x
  unfold compL
  rw [List.mem_map]
  constructor
  ·rintro ⟨y, hy, rfl⟩
   have := (h1 y).1 hy
   rw [List.take_length, sortL_toL, List.mem_mergeSort, List.mem_map] at this
   obtain ⟨b, hb, rfl⟩ := this
   rw [ofL_toL]; exact hb
  ·intro hx
   refine ⟨toL x, (h1 _).2 ?_, ofL_toL x⟩
   rw [List.take_length, sortL_toL, List.mem_mergeSort]
   exact List.mem_map.2 ⟨x, hx, rfl⟩
def insAt (l : List ByteArray) (x : ByteArray) : Nat := (l.takeWhile fun y => decide (toL y < toL x)).length
def inB (x : ByteArray) (l : List ByteArray) : Bool := l.any fun y => decide (x = y)
theorem inB_iff {x : ByteArray} {l : List ByteArray} : inB x l = true ↔ x ∈ l := by simp [inB]
def insR (l : List ByteArray) (x : ByteArray) : List ByteArray := if inB x l = true then l else l.take (insAt l x) ++ x :: l.drop (insAt l x)
theorem insR_mem {l : List ByteArray} {x y : ByteArray} : y ∈ insR l x ↔ y ∈ l ∨ y = x := by
 unfold insR
 split
 ·rename_i h
  rw [inB_iff] at h
  exact ⟨.inl, fun g => g.elim id fun e => e ▸ h⟩
 ·have : y ∈ l.take (insAt l x) ++ l.drop (insAt l x) ↔ y ∈ l := by rw [List.take_append_drop]
  rw [List.mem_append] at this ⊢
  rw [List.mem_cons, ← this]
  constructor
  ·rintro (h | h | h)
   ·exact .inl (.inl h)
   ·exact .inr h
   ·exact .inl (.inr h)
  ·rintro ((h | h) | h)
   ·exact .inl h
   ·exact .inr (.inr h)
   ·exact .inr (.inl h)
theorem ins_split : ∀ (l : List ByteArray) (x : ByteArray), Ris l → x ∉ l → Ris (l.take (insAt l x) ++ x :: l.drop (insAt l x))
 | [], x, _, _ => by simp [insAt, Ris]
 | a :: r, x, h, hx => by
  unfold Ris at h
  rw [List.pairwise_cons] at h
  rw [List.mem_cons, not_or] at hx
  unfold insAt
  rw [List.takeWhile_cons]
  by_cases ha : toL a < toL x
  ·rw [if_pos (by simpa using ha), List.length_cons, List.take_succ_cons, List.drop_succ_cons, List.cons_append]
   have ih := ins_split r x h.2 hx.2
   unfold Ris at ih ⊢
   unfold insAt at ih
   rw [List.pairwise_cons]
   refine ⟨fun y hy => ?_, ih⟩
   have hy2 : y ∈ insR r x := by unfold insR insAt; rw [if_neg (fun h => hx.2 (inB_iff.1 h))]; exact hy
   rcases insR_mem.1 hy2 with g | g
   ·exact h.1 y g
   ·subst g; exact ha
  ·rw [if_neg (by simpa using ha), List.length_nil, List.take_zero, List.drop_zero, List.nil_append]
   unfold Ris
   have hxa : toL x < toL a := by
    rcases lt_tri (toL a) (toL x) with g | g | g
    ·exact absurd g ha
    ·exact absurd (toL_inj g).symm hx.1
    ·exact g
   rw [List.pairwise_cons, List.pairwise_cons]
   refine ⟨fun y hy => ?_, h.1, h.2⟩
   rcases List.mem_cons.1 hy with g | g
   ·subst g; exact hxa
   ·exact lt_tr hxa (h.1 y g)
theorem insR_ris {l : List ByteArray} {x : ByteArray} (h : Ris l) : Ris (insR l x) := by
 unfold insR
 split
 ·exact h
 ·rename_i hx; exact ins_split l x h fun g => hx (inB_iff.2 g)
theorem ins_all : ∀ (ns l : List ByteArray), Ris l → Ris (ns.foldl insR l) ∧ ∀ x, x ∈ ns.foldl insR l ↔ x ∈ l ∨ x ∈ ns
 | [], l, h => ⟨h, fun x => by simp⟩
 | n :: ns, l, h => by
  obtain ⟨h1, h2⟩ := ins_all ns (insR l n) (insR_ris h)
  refine ⟨h1, fun x => ?_⟩
  rw [List.foldl_cons, h2, insR_mem, List.mem_cons]
  constructor
  ·rintro ((g | g) | g)
   ·exact .inl g
   ·exact .inr (.inl g)
   ·exact .inr (.inr g)
  ·rintro (g | g | g)
   ·exact .inl (.inl g)
   ·exact .inl (.inr g)
   ·exact .inr g
theorem insAt_le (l : List ByteArray) (x : ByteArray) : insAt l x ≤ l.length := (List.takeWhile_sublist _).length_le
theorem insAt_lt : ∀ (l : List ByteArray) (x : ByteArray) (i : Nat), i < insAt l x → ∃ h : i < l.length, toL l[i] < toL x
 | [], x, i, h => by simp [insAt] at h
 | a :: r, x, i, h => by
  unfold insAt at h
  rw [List.takeWhile_cons] at h
  split at h
  ·rename_i ha
   cases i with
   | zero => exact ⟨by simp, by simpa using ha⟩
   | succ i =>
    rw [List.length_cons] at h
    obtain ⟨h1, h2⟩ := insAt_lt r x i (by unfold insAt; omega)
    exact ⟨by simpa using h1, by simpa using h2⟩
  ·simp at h
theorem insAt_at : ∀ (l : List ByteArray) (x : ByteArray) (h : insAt l x < l.length), ¬ toL l[insAt l x] < toL x
 | [], x, h => by simp at h
 | a :: r, x, h => by
  by_cases ha : toL a < toL x
  ·have e : insAt (a :: r) x = insAt r x + 1 := by unfold insAt; rw [List.takeWhile_cons, if_pos (by simpa using ha)]; rfl
   simp only [e, List.getElem_cons_succ]
   exact insAt_at r x (by rw [e] at h; simpa using h)
  ·have e : insAt (a :: r) x = 0 := by unfold insAt; rw [List.takeWhile_cons, if_neg (by simpa using ha)]; rfl
   simp only [e, List.getElem_cons_zero]
   exact ha
theorem insR_len (l : List ByteArray) (x : ByteArray) : (insR l x).length ≤ l.length + 1 := by
 unfold insR; split
 ·omega
 ·simp; omega
theorem ins_len : ∀ (ns l : List ByteArray), (ns.foldl insR l).length ≤ l.length + ns.length
 | [], l => by simp
 | n :: ns, l => by
  have h1 := ins_len ns (insR l n)
  have h2 := insR_len l n
  rw [List.foldl_cons, List.length_cons]; omega
theorem comp_ins (ns : List ByteArray) : compL (sortL ns) = ns.foldl insR [] := by
 obtain ⟨h1, h2⟩ := comp_ok ns
 obtain ⟨h3, h4⟩ := ins_all ns [] (by simp [Ris])
 exact ris_unique h1 h3 fun x => by rw [h2, h4]; simp
end Go.Pv
