import Derived.Test.YtcllmionhlmjfaaAFpC
import Derived.Test.YtcllmionhlmjfaaAFormB
import Derived.Test.YtcllmionhlmjfaaAPvQt
import Derived.Test.YtcllmionhlmjfaaAFormA
import Derived.Ground.NamesProg
import Derived.Shelf.Slices.In.CompactS
import Derived.Shelf.Slices.In.SortAlone
import Derived.Shelf.Slices.In.SortNone
import Derived.Sort.EveryDepth
import Derived.Sort.Grow
import Derived.Lib.RowBridge
import Derived.Sort.Walk0
set_option linter.unusedVariables false
set_option linter.unusedSimpArgs false
set_option maxRecDepth 100000
set_option maxHeartbeats 4000000
namespace Go.Proofs.Ytcllmionhlmjfaa
open Go Go.Pv
def PPf (t : ByteArray) : Nat → (Nat → Res) × (Nat → Res)
 | 0 => (fun i => .error i, fun i => .error i)
 | n + 1 => (notP t (PPf t n).1 (PPf t n).2, thenP t (opP t ⟨#[124]⟩ 6 (opP t ⟨#[38]⟩ 5 (notP t (PPf t n).1 (PPf t n).2))) (PPf t n).2)
theorem reader_told (t : ByteArray) (hs : t.size ≤ 1000000) : ∀ n i, i ≤ t.size → t.size - i < n → Told 128 t i ((PPf t n).1 i) ∧ Told 56 t i ((PPf t n).2 i) := by
 intro n
 induction n with
 | zero => intro i _ h; omega
 | succ n ih =>
  intro i hi hn
  have hN : ∀ j, i ≤ j → j ≤ t.size → Told 128 t j (notP t (PPf t n).1 (PPf t n).2 j) := fun j h1 h2 =>
   not_reader t j hs h2 _ _ (fun k h3 h4 => (ih k h4 (by omega)).1) (fun k h3 h4 => (ih k h4 (by omega)).2)
  have le_of : ∀ {F j R}, Told F t j R → ∀ f k, R = .ok (f, k) → j ≤ k ∧ k ≤ t.size := fun h f k e => by rw [e] at h; exact h.2
  refine ⟨hN i (Nat.le_refl _) hi, ?_⟩
  refine then_reader t i hs hi _ _ ?_ (fun k h3 h4 => (ih k h4 (by omega)).2)
  exact or_reader t i hs hi _ fun j h1 h2 => and_reader t j hs h2 _ fun k h3 h4 => hN k (by omega) h4
def parseR (t : ByteArray) : Res := (PPf t (t.size + 1)).2 0
theorem parse_told (t : ByteArray) (hs : t.size ≤ 1000000) : Told 56 t 0 (parseR t) := (reader_told t hs _ 0 (by omega) (by omega)).2
def parseO (t : ByteArray) : Fm × Int × Int :=
 if 20000 < t.size then (.mk 0 ⟨#[]⟩ [], 2, 0) else match parseR t with
 | .error p => (.mk 0 ⟨#[]⟩ [], 1, (p : Int))
 | .ok (f, j) => if bl t j < t.size then (.mk 0 ⟨#[]⟩ [], 1, (bl t j : Int)) else if 200 < (nodesGo 201 201 [f]).length then (.mk 0 ⟨#[]⟩ [], 2, 0) else (f, 0, 0)
def x55 : XC := .seq (.reg [⟨some 5,.call ⟨.builtin .recover,#[],#[]⟩,none⟩]) (.block 0 (.seq (.reg [⟨some 7,.binOp .eql 20 (.tmp 5) (.const .nilIface) 20,none⟩]) (.cond (.tmp 7) (.reg [⟨some 2,.assign (.tmp 5),none⟩]) (.seq (.reg [⟨some 8,.typeAssert (.tmp 5) 20 82 true,none⟩,⟨some 9,.extract (.tmp 8) 1,none⟩,⟨some 10,.extract (.tmp 8) 0,none⟩]) (.cond (.tmp 9) (.seq (.reg [⟨some 3,.alloc 82,none⟩,⟨none,.store 82 (.tmp 3) (.tmp 10),none⟩]) (.drawn 7 [⟨some 11,.build 24 #[],none⟩,⟨some 12,.fieldAddr 82 (.tmp 3) 0,none⟩,⟨some 13,.load 29 (.tmp 12),none⟩,⟨none,.store 24 (.tmp 0) (.tmp 11),none⟩,⟨none,.store 29 (.tmp 1) (.tmp 13),none⟩])) (.seq (.reg [⟨some 4,.assign (.tmp 5),none⟩]) (.reg [⟨some 6,.move (.tmp 4),none⟩,⟨none,.panic (.tmp 6),none⟩])))))))
@[simp] theorem x55_s {C e s K} : type_of% (@X_at C e s K _ _ x55.eq_1) := X_at x55.eq_1
def an55 : Ann := ⟨[(7, .tree (.op 0 (.op 1 (.op 2 (.op 3 (.ck 2 (.op 4 .fin)))))))], [], []⟩
@[simp] theorem an55_a : an55.clsOf 7 = .tree (.op 0 (.op 1 (.op 2 (.op 3 (.ck 2 (.op 4 .fin)))))) ∧ an55.frzOf 7 = [] := ⟨rfl, rfl⟩
theorem fr_parse : FR Try.prog 55 (cxA an55) 5 (sndX x55) [] Try.f55 := frA Try.func55 mixed (by decide +kernel) (by kernel_rfl) (by kernel_rfl)
@[simp] theorem xn_nil : xnilI Try.prog 20 .niliface = some (.bool true) := by kernel_rfl
@[simp] theorem xn_some (t : TypeId) (v : PV) : xnilI Try.prog 20 (.iface t v) = some (.bool false) := by kernel_rfl
theorem parse1_none (f : Fm) : CallRec Try.prog 55 none [.ptr 0 0 0, .ptr 1 0 0] [.rows 3 [frm f], .rows 2 [[.int .i64 0, .int .i64 0]]] [.rows 3 [frm f], .rows 2 [[.int .i64 0, .int .i64 0]]] := by
 refine FR.og (v := .tuple []) fr_parse (r := none) (rv := .niliface) rfl ?_
 simp only [x55, sndX]
 have hr2 : List.range 2 = [0, 1] := rfl
 ((refine Sg.h ?_); try repeat' ((first | (with_reducible first | refine brA ?_ | refine brE fun _ => ?_ | (refine spl ⟨?_, ?_⟩ <;> intro _))) <;> ((try simp -implicitDefEqProofs [hr2]); (try simp -implicitDefEqProofs (disch := first | assumption | (try simp only [lens]); omega -splitDisjunctions) [hr2]))))
theorem parse1_none0 : CallRec Try.prog 55 none [.ptr 0 0 0, .ptr 1 0 0] [.rows 3 [[.int .i64 0, .str ⟨#[]⟩, .nilsl]], .rows 2 [[.int .i64 2, .int .i64 0]]] [.rows 3 [[.int .i64 0, .str ⟨#[]⟩, .nilsl]], .rows 2 [[.int .i64 2, .int .i64 0]]] := by
 refine FR.og (v := .tuple []) fr_parse (r := none) (rv := .niliface) rfl ?_
 simp only [x55, sndX]
 have hr2 : List.range 2 = [0, 1] := rfl
 ((refine Sg.h ?_); try repeat' ((first | (with_reducible first | refine brA ?_ | refine brE fun _ => ?_ | (refine spl ⟨?_, ?_⟩ <;> intro _))) <;> ((try simp -implicitDefEqProofs [hr2]); (try simp -implicitDefEqProofs (disch := first | assumption | (try simp only [lens]); omega -splitDisjunctions) [hr2]))))
theorem parse1_stop (f : Fm) (p : Nat) : CallRec Try.prog 55 (some (stopV p)) [.ptr 0 0 0, .ptr 1 0 0] [.rows 3 [frm f], .rows 2 [[.int .i64 0, .int .i64 0]]] [.rows 3 [[.int .i64 0, .str ⟨#[]⟩, .nilsl]], .rows 2 [[.int .i64 1, .int .i64 (p : Int)]]] := by
 refine FR.og (v := .tuple []) fr_parse (r := some (stopV p)) (pan_stop p) ?_
 simp only [x55, sndX]
 have hr2 : List.range 2 = [0, 1] := rfl
 ((refine Sg.h ?_); try repeat' ((first | (with_reducible first | refine brA ?_ | refine brE fun _ => ?_ | (refine spl ⟨?_, ?_⟩ <;> intro _))) <;> ((try simp -implicitDefEqProofs [hr2]); (try simp -implicitDefEqProofs (disch := first | assumption | (try simp only [lens]); omega -splitDisjunctions) [hr2]))))
theorem parse1_stop0 (p : Nat) : CallRec Try.prog 55 (some (stopV p)) [.ptr 0 0 0, .ptr 1 0 0] [.rows 3 [[.int .i64 0, .str ⟨#[]⟩, .nilsl]], .rows 2 [[.int .i64 0, .int .i64 0]]] [.rows 3 [[.int .i64 0, .str ⟨#[]⟩, .nilsl]], .rows 2 [[.int .i64 1, .int .i64 (p : Int)]]] := by
 refine FR.og (v := .tuple []) fr_parse (r := some (stopV p)) (pan_stop p) ?_
 simp only [x55, sndX]
 have hr2 : List.range 2 = [0, 1] := rfl
 ((refine Sg.h ?_); try repeat' ((first | (with_reducible first | refine brA ?_ | refine brE fun _ => ?_ | (refine spl ⟨?_, ?_⟩ <;> intro _))) <;> ((try simp -implicitDefEqProofs [hr2]); (try simp -implicitDefEqProofs (disch := first | assumption | (try simp only [lens]); omega -splitDisjunctions) [hr2]))))
def x19 : XC := .seq (.reg [⟨some 2,.alloc 24,none⟩,⟨some 3,.alloc 29,none⟩]) (.seq (.seq (.reg [⟨some 5,.move (.tmp 0),none⟩,⟨some 6,.call ⟨.builtin .len,#[.tmp 5],#[9]⟩,none⟩,⟨some 7,.binOp .gtr 3 (.tmp 6) (.const (.int .i64 20000)) 3,none⟩]) (.cond (.tmp 7) (.seq (.drawn 2 [⟨some 8,.load 24 (.tmp 2),none⟩,⟨some 9,.call ⟨.value (.func 50),#[.const (.int .i64 2),.const (.int .i64 0)],#[3,3]⟩,none⟩,⟨none,.store 24 (.tmp 2) (.tmp 8),none⟩,⟨none,.store 29 (.tmp 3) (.tmp 9),none⟩]) .ret) .skip)) (.seq (.reg [⟨some 10,.makeFunc (.func 55) #[] #[.tmp 2,.tmp 3],none⟩,⟨none,.defer ⟨.value (.tmp 10),#[],#[]⟩,none⟩]) (.seq (.reg [⟨some 11,.move (.tmp 0),none⟩,⟨some 12,.build 85 #[(0,.tmp 11)],none⟩,⟨some 13,.box 85 (.tmp 12),none⟩,⟨some 4,.assign (.tmp 13),none⟩]) (.seq (.reg [⟨some 14,.move (.tmp 4),none⟩,⟨some 15,.call ⟨.value (.func 56),#[.tmp 14],#[83]⟩,none⟩,⟨none,.store 24 (.tmp 2) (.tmp 15),none⟩]) (.seq (.seq (.reg [⟨some 16,.move (.tmp 4),none⟩,⟨some 17,.call ⟨.value (.func 57),#[.tmp 16],#[83]⟩,none⟩]) (.seq (.reg [⟨some 18,.move (.tmp 4),none⟩,⟨some 19,.nilCheck (.tmp 18),none⟩,⟨some 20,.fieldAddr 85 (.tmp 19) 1,none⟩,⟨some 21,.load 3 (.tmp 20),none⟩,⟨some 22,.move (.tmp 0),none⟩,⟨some 23,.call ⟨.builtin .len,#[.tmp 22],#[9]⟩,none⟩,⟨some 24,.binOp .lss 3 (.tmp 21) (.tmp 23) 3,none⟩]) (.cond (.tmp 24) (.reg [⟨some 25,.move (.tmp 4),none⟩,⟨some 26,.call ⟨.value (.func 58),#[.tmp 25],#[83]⟩,none⟩]) .skip))) (.seq (.seq (.reg [⟨some 27,.load 24 (.tmp 2),none⟩,⟨some 28,.call ⟨.value (.func 48),#[.tmp 27,.const (.int .i64 201)],#[24,3]⟩,none⟩,⟨some 29,.call ⟨.builtin .len,#[.tmp 28],#[22]⟩,none⟩,⟨some 30,.binOp .gtr 3 (.tmp 29) (.const (.int .i64 200)) 3,none⟩]) (.cond (.tmp 30) (.seq (.reg [⟨some 31,.build 24 #[],none⟩,⟨some 32,.call ⟨.value (.func 50),#[.const (.int .i64 2),.const (.int .i64 0)],#[3,3]⟩,none⟩,⟨none,.store 24 (.tmp 2) (.tmp 31),none⟩,⟨none,.store 29 (.tmp 3) (.tmp 32),none⟩]) .ret) .skip)) (.seq (.drawn 11 [⟨some 33,.load 24 (.tmp 2),none⟩,⟨some 34,.load 29 (.tmp 3),none⟩,⟨none,.store 24 (.tmp 2) (.tmp 33),none⟩,⟨none,.store 29 (.tmp 3) (.tmp 34),none⟩]) .ret)))))))
@[simp] theorem x19_s {C e s K} : type_of% (@X_at C e s K _ _ x19.eq_1) := X_at x19.eq_1
def an19 : Ann := ⟨[(2, .mix 2), (11, .mix3 2 1)], [], []⟩
@[simp] theorem an19_a : an19.clsOf 2 = .mix 2 ∧ an19.clsOf 11 = .mix3 2 1 ∧ an19.frzOf 2 = [] ∧ an19.frzOf 11 = [] := ⟨rfl, rfl, rfl, rfl⟩
theorem fd_parse : FD Try.prog 19 (cxA an19) (preX 2 x19) 10 55 [.tmp 2, .tmp 3] (dropX 3 x19) [.cell 2 24, .cell 3 29] Try.f19 := fdA Try.func19 mixed (by decide +kernel) (by kernel_rfl) (by kernel_rfl)
theorem Parse_formula (t : ByteArray) : CallOK Try.prog 19 [.str t] [] (.tuple [.agg (frm (parseO t).1), .agg [.int .i64 (parseO t).2.1, .int .i64 (parseO t).2.2]]) [] := by
 have hf1 := fault_formula 2 0 []
 refine FD.os fd_parse ?_
 simp only [x19, preX, dropX]
 unfold parseO
 by_cases hm : 20000 < t.size
 ·rw [if_pos hm]
  have hm' : (20000 : Int) < (t.size : Int) := by omega
  ((refine Sg.h ?_); try repeat' ((first | (with_reducible first | refine brA ?_ | refine brE fun _ => ?_ | (refine spl ⟨?_, ?_⟩ <;> intro _)) | refine clo hf1 ?_) <;> ((try simp -implicitDefEqProofs [hm']); (try simp -implicitDefEqProofs (disch := first | assumption | (try simp only [lens]); omega -splitDisjunctions) [hm']))))
  rfl
 ·rw [if_neg hm]
  have hm' : ¬ (20000 : Int) < (t.size : Int) := by omega
  have hs : t.size ≤ 1000000 := by omega
  have h0 := parse_told t hs
  cases hp0 : parseR t with
  | error q =>
   rw [hp0] at h0
   simp only [Told] at h0
   ((refine Sg.h ?_); try repeat' ((first | (with_reducible first | refine brA ?_ | refine brE fun _ => ?_ | (refine spl ⟨?_, ?_⟩ <;> intro _)) | refine clo hf1 ?_) <;> ((try simp -implicitDefEqProofs [hm']); (try simp -implicitDefEqProofs (disch := first | assumption | (try simp only [lens]); omega -splitDisjunctions) [hm']))))
   refine CL.psub [2] h0 ?_
   ((refine Sg.h ?_); try repeat' ((first | (with_reducible first | refine brA ?_ | refine brE fun _ => ?_ | (refine spl ⟨?_, ?_⟩ <;> intro _))) <;> ((try simp -implicitDefEqProofs); (try simp -implicitDefEqProofs (disch := first | assumption | (try simp only [lens]); omega -splitDisjunctions)))))
   refine DRec.sub [0, 1] (parse1_stop0 q) ?_
   ((refine Sg.h ?_); try repeat' ((first | (with_reducible first | refine brA ?_ | refine brE fun _ => ?_ | (refine spl ⟨?_, ?_⟩ <;> intro _))) <;> ((try simp -implicitDefEqProofs); (try simp -implicitDefEqProofs (disch := first | assumption | (try simp only [lens]); omega -splitDisjunctions)))))
   all_goals first | rfl | skip
  | ok r =>
   obtain ⟨f, j⟩ := r
   rw [hp0] at h0
   obtain ⟨h0, h1, h2⟩ := h0
   have hb := blanks_reader t j hs h2
   have hbl := bl_le h2
   have hf2 := fail_reader t (bl t j)
   have hn := nodes_formula f 201 (by decide) []
   simp only
   generalize bl t j = k at *
   by_cases hk : k < t.size
   ·rw [if_pos hk]
    have hk' : (k : Int) < (t.size : Int) := by omega
    ((refine Sg.h ?_); try repeat' ((first | (with_reducible first | refine brA ?_ | refine brE fun _ => ?_ | (refine spl ⟨?_, ?_⟩ <;> intro _)) | refine clo hf1 ?_) <;> ((try simp -implicitDefEqProofs [hm']); (try simp -implicitDefEqProofs (disch := first | assumption | (try simp only [lens]); omega -splitDisjunctions) [hm']))))
    refine CL.sub [2] h0 ?_
    ((refine Sg.h ?_); try repeat' ((first | (with_reducible first | refine brA ?_ | refine brE fun _ => ?_ | (refine spl ⟨?_, ?_⟩ <;> intro _))) <;> ((try simp -implicitDefEqProofs); (try simp -implicitDefEqProofs (disch := first | assumption | (try simp only [lens]); omega -splitDisjunctions)))))
    refine CL.sub [2] hb ?_
    ((refine Sg.h ?_); try repeat' ((first | (with_reducible first | refine brA ?_ | refine brE fun _ => ?_ | (refine spl ⟨?_, ?_⟩ <;> intro _))) <;> ((try simp -implicitDefEqProofs [hk']); (try simp -implicitDefEqProofs (disch := first | assumption | (try simp only [lens]); omega -splitDisjunctions) [hk']))))
    refine CL.psub [2] hf2 ?_
    ((refine Sg.h ?_); try repeat' ((first | (with_reducible first | refine brA ?_ | refine brE fun _ => ?_ | (refine spl ⟨?_, ?_⟩ <;> intro _))) <;> ((try simp -implicitDefEqProofs); (try simp -implicitDefEqProofs (disch := first | assumption | (try simp only [lens]); omega -splitDisjunctions)))))
    refine DRec.sub (s2 := [.rows 3 [[.int .i64 0, .str ⟨#[]⟩, .nilsl]], .rows 2 [[.int .i64 1, .int .i64 (k : Int)]]]) [0, 1] (by simpa using parse1_stop f k) ?_
    ((refine Sg.h ?_); try repeat' ((first | (with_reducible first | refine brA ?_ | refine brE fun _ => ?_ | (refine spl ⟨?_, ?_⟩ <;> intro _))) <;> ((try simp -implicitDefEqProofs); (try simp -implicitDefEqProofs (disch := first | assumption | (try simp only [lens]); omega -splitDisjunctions)))))
    all_goals first | rfl | skip
   ·rw [if_neg hk]
    have hk' : ¬ (k : Int) < (t.size : Int) := by omega
    generalize nodesGo 201 201 [f] = L at *
    by_cases hL : 200 < L.length
    ·rw [if_pos hL]
     have hL' : (200 : Int) < (L.length : Int) := by omega
     ((refine Sg.h ?_); try repeat' ((first | (with_reducible first | refine brA ?_ | refine brE fun _ => ?_ | (refine spl ⟨?_, ?_⟩ <;> intro _)) | refine clo hf1 ?_) <;> ((try simp -implicitDefEqProofs [hm']); (try simp -implicitDefEqProofs (disch := first | assumption | (try simp only [lens]); omega -splitDisjunctions) [hm']))))
     refine CL.sub [2] h0 ?_
     ((refine Sg.h ?_); try repeat' ((first | (with_reducible first | refine brA ?_ | refine brE fun _ => ?_ | (refine spl ⟨?_, ?_⟩ <;> intro _))) <;> ((try simp -implicitDefEqProofs); (try simp -implicitDefEqProofs (disch := first | assumption | (try simp only [lens]); omega -splitDisjunctions)))))
     refine CL.sub [2] hb ?_
     ((refine Sg.h ?_); try repeat' ((first | (with_reducible first | refine brA ?_ | refine brE fun _ => ?_ | (refine spl ⟨?_, ?_⟩ <;> intro _)) | refine clo hn ?_ | refine clo hf1 ?_) <;> ((try simp -implicitDefEqProofs [hk', hL']); (try simp -implicitDefEqProofs (disch := first | assumption | (try simp only [lens]); omega -splitDisjunctions) [hk', hL']))))
     refine DRec.sub [0, 1] parse1_none0 ?_
     ((refine Sg.h ?_); try repeat' ((first | (with_reducible first | refine brA ?_ | refine brE fun _ => ?_ | (refine spl ⟨?_, ?_⟩ <;> intro _))) <;> ((try simp -implicitDefEqProofs); (try simp -implicitDefEqProofs (disch := first | assumption | (try simp only [lens]); omega -splitDisjunctions)))))
     all_goals first | rfl | skip
    ·rw [if_neg hL]
     have hL' : ¬ (200 : Int) < (L.length : Int) := by omega
     ((refine Sg.h ?_); try repeat' ((first | (with_reducible first | refine brA ?_ | refine brE fun _ => ?_ | (refine spl ⟨?_, ?_⟩ <;> intro _)) | refine clo hf1 ?_) <;> ((try simp -implicitDefEqProofs [hm']); (try simp -implicitDefEqProofs (disch := first | assumption | (try simp only [lens]); omega -splitDisjunctions) [hm']))))
     refine CL.sub [2] h0 ?_
     ((refine Sg.h ?_); try repeat' ((first | (with_reducible first | refine brA ?_ | refine brE fun _ => ?_ | (refine spl ⟨?_, ?_⟩ <;> intro _))) <;> ((try simp -implicitDefEqProofs); (try simp -implicitDefEqProofs (disch := first | assumption | (try simp only [lens]); omega -splitDisjunctions)))))
     refine CL.sub [2] hb ?_
     ((refine Sg.h ?_); try repeat' ((first | (with_reducible first | refine brA ?_ | refine brE fun _ => ?_ | (refine spl ⟨?_, ?_⟩ <;> intro _)) | refine clo hn ?_ | refine clo hf1 ?_) <;> ((try simp -implicitDefEqProofs [hk', hL']); (try simp -implicitDefEqProofs (disch := first | assumption | (try simp only [lens]); omega -splitDisjunctions) [hk', hL']))))
     refine And.intro ?_ ?_
     all_goals (refine DRec.sub (s2 := [.rows 3 [frm f], .rows 2 [[.int .i64 0, .int .i64 0]]]) [0, 1] (by simpa using parse1_none f) ?_)
     all_goals (((refine Sg.h ?_); try repeat' ((first | (with_reducible first | refine brA ?_ | refine brE fun _ => ?_ | (refine spl ⟨?_, ?_⟩ <;> intro _))) <;> ((try simp -implicitDefEqProofs); (try simp -implicitDefEqProofs (disch := first | assumption | (try simp only [lens]); omega -splitDisjunctions))))))
     all_goals first | rfl | skip
end Go.Proofs.Ytcllmionhlmjfaa
namespace Go.Proofs
open Go.Shelf
def Try.laysSort_ren : Go.Shelf.Ren := ⟨fun | 190 => 103 | 125 => 127 | 258 => 126 | 128 => 144 | 129 => 145 | 302 => 135 | 303 => 136 | 304 => 137 | 305 => 138 | 306 => 139 | 307 => 140 | 308 => 141 | 309 => 142 | 310 => 143 | 333 => 151 | 329 => 152 | 330 => 153 | 334 => 154 | 335 => 155 | 336 => 156 | 344 => 162 | n => n, fun | 31 => 65 | 9 => 9 | 3 => 3 | 46 => 159 | 0 => 0 | 51 => 172 | 53 => 174 | 4 => 4 | 183 => 166 | 182 => 165 | 131 => 162 | 5 => 5 | 218 => 185 | 222 => 189 | 228 => 194 | 229 => 146 | n => n, fun | n => n⟩
theorem Try.laysSort : Go.Proofs.Lays.n190 Try.prog Try.laysSort_ren := {
 mixed := by kernel_rfl,
 f125 := Try.func127.trans (congrArg some (by kernel_rfl)),
 f128 := Try.func144.trans (congrArg some (by kernel_rfl)),
 f129 := Try.func145.trans (congrArg some (by kernel_rfl)),
 f190 := Try.func103.trans (congrArg some (by kernel_rfl)),
 f258 := Try.func126.trans (congrArg some (by kernel_rfl)),
 f302 := Try.func135.trans (congrArg some (by kernel_rfl)),
 f303 := Try.func136.trans (congrArg some (by kernel_rfl)),
 f304 := Try.func137.trans (congrArg some (by kernel_rfl)),
 f305 := Try.func138.trans (congrArg some (by kernel_rfl)),
 f306 := Try.func139.trans (congrArg some (by kernel_rfl)),
 f307 := Try.func140.trans (congrArg some (by kernel_rfl)),
 f308 := Try.func141.trans (congrArg some (by kernel_rfl)),
 f309 := Try.func142.trans (congrArg some (by kernel_rfl)),
 f310 := Try.func143.trans (congrArg some (by kernel_rfl)),
 f329 := Try.func152.trans (congrArg some (by kernel_rfl)),
 f330 := Try.func153.trans (congrArg some (by kernel_rfl)),
 f333 := Try.func151.trans (congrArg some (by kernel_rfl)),
 f334 := Try.func154.trans (congrArg some (by kernel_rfl)),
 f335 := Try.func155.trans (congrArg some (by kernel_rfl)),
 f336 := Try.func156.trans (congrArg some (by kernel_rfl)),
 f344 := Try.func162.trans (congrArg some (by kernel_rfl)),
 t0 := Try.underlying0,
 a0 := Try.isAgg0,
 z0 := Try.sizeOf0,
 v0 := Try.zeroValue0,
 t3 := Try.underlying3,
 a3 := Try.isAgg3,
 z3 := Try.sizeOf3,
 v3 := Try.zeroValue3,
 t4 := Try.underlying4,
 a4 := Try.isAgg4,
 z4 := Try.sizeOf4,
 v4 := Try.zeroValue4,
 t5 := Try.underlying5,
 a5 := Try.isAgg5,
 z5 := Try.sizeOf5,
 v5 := Try.zeroValue5,
 t9 := Try.underlying9,
 a9 := Try.isAgg9,
 z9 := Try.sizeOf9,
 v9 := Try.zeroValue9,
 t31 := Try.underlying65,
 a31 := Try.isAgg65,
 z31 := Try.sizeOf65,
 v31 := Try.zeroValue65,
 t46 := Try.underlying159,
 a46 := Try.isAgg159,
 z46 := Try.sizeOf159,
 v46 := Try.zeroValue159,
 t51 := Try.underlying172,
 a51 := Try.isAgg172,
 z51 := Try.sizeOf172,
 v51 := Try.zeroValue172,
 t53 := Try.underlying174,
 a53 := Try.isAgg174,
 z53 := Try.sizeOf174,
 v53 := Try.zeroValue174,
 t131 := Try.underlying162,
 a131 := Try.isAgg162,
 z131 := Try.sizeOf162,
 v131 := Try.zeroValue162,
 t182 := Try.underlying165,
 a182 := Try.isAgg165,
 z182 := Try.sizeOf165,
 v182 := Try.zeroValue165,
 t183 := Try.underlying166,
 a183 := Try.isAgg166,
 z183 := Try.sizeOf166,
 v183 := Try.zeroValue166,
 t218 := Try.underlying185,
 a218 := Try.isAgg185,
 z218 := Try.sizeOf185,
 v218 := Try.zeroValue185,
 t222 := Try.underlying189,
 a222 := Try.isAgg189,
 z222 := Try.sizeOf189,
 v222 := Try.zeroValue189,
 t228 := Try.underlying194,
 a228 := Try.isAgg194,
 z228 := Try.sizeOf194,
 v228 := Try.zeroValue194,
 t229 := Try.underlying146,
 a229 := Try.isAgg146,
 z229 := Try.sizeOf146,
 v229 := Try.zeroValue146 }
def Try.laysCompact_ren : Go.Shelf.Ren := ⟨fun | 194 => 104 | n => n, fun | 31 => 65 | 9 => 9 | 3 => 3 | 4 => 4 | 0 => 0 | n => n, fun | n => n⟩
theorem Try.laysCompact : Go.Proofs.Lays.n194 Try.prog Try.laysCompact_ren := {
 mixed := by kernel_rfl,
 f194 := Try.func104.trans (congrArg some (by kernel_rfl)),
 t0 := Try.underlying0,
 a0 := Try.isAgg0,
 z0 := Try.sizeOf0,
 v0 := Try.zeroValue0,
 t3 := Try.underlying3,
 a3 := Try.isAgg3,
 z3 := Try.sizeOf3,
 v3 := Try.zeroValue3,
 t4 := Try.underlying4,
 a4 := Try.isAgg4,
 z4 := Try.sizeOf4,
 v4 := Try.zeroValue4,
 t9 := Try.underlying9,
 a9 := Try.isAgg9,
 z9 := Try.sizeOf9,
 v9 := Try.zeroValue9,
 t31 := Try.underlying65,
 a31 := Try.isAgg65,
 z31 := Try.sizeOf65,
 v31 := Try.zeroValue65 }
end Go.Proofs
namespace Go.Pv
open Go Go.Sort Go.Proofs
set_option linter.unusedVariables false
set_option linter.unusedSimpArgs false
def ofL (x : List UInt8) : ByteArray := ⟨x.toArray⟩
def toL (b : ByteArray) : List UInt8 := b.data.toList
@[simp] theorem ofL_toL (b : ByteArray) : ofL (toL b) = b := by cases b; simp [ofL, toL]
@[simp] theorem toL_ofL (x : List UInt8) : toL (ofL x) = x := by simp [ofL, toL]
def sortL (l : List ByteArray) : List ByteArray := ((l.map toL).mergeSort fun x y => decide (x ≤ y)).map ofL
def compL (l : List ByteArray) : List ByteArray := (Lib.compact (l.map toL)).map ofL
theorem sortL_length (l : List ByteArray) : (sortL l).length = l.length := by simp [sortL, List.length_mergeSort]
theorem sortL_toL (l : List ByteArray) : (sortL l).map toL = (l.map toL).mergeSort fun x y => decide (x ≤ y) := by
 unfold sortL; rw [List.map_map]; exact (List.map_congr_left fun x _ => toL_ofL x).trans (List.map_id _)
theorem compL_toL (l : List ByteArray) : (compL l).map toL = Lib.compact (l.map toL) := by
 unfold compL; rw [List.map_map]; exact (List.map_congr_left fun x _ => toL_ofL x).trans (List.map_id _)
theorem compL_length (l : List ByteArray) : (compL l).length ≤ l.length := by
 have := Lib.compact_length_le (l.map toL)
 simpa [compL] using this
theorem mem_of_compact {zs : List (List UInt8)} {x : List UInt8} (h : x ∈ Lib.compact zs) : x ∈ zs := by
 unfold Lib.compact Lib.compactUpTo at h
 obtain ⟨j, hj, rfl⟩ := List.mem_map.1 h
 rw [List.mem_filter, List.mem_range] at hj
 rw [getElem!_pos _ _ (by simpa using hj.1)]; simp
section
variable {C : Ctx} {p : PHeap} {σ : Sig} {s : Store} {w : World}
theorem SR.grown (h : SR C p σ s w) (os : Array Obj) : SR C p σ s (Go.Sort.grow w os) := by
 have hold : ∀ b, b < w.heap.size → (w.heap ++ os)[b]? = w.heap[b]? := fun b hb => Array.getElem?_append_left hb
 exact {
  pubIn := fun b o hb => by
   have := h.pubIn b o hb
   show (w.heap ++ os)[b]? = _
   rw [hold b (by
    rcases Nat.lt_or_ge b w.heap.size with h1 | h1
    ·exact h1
    ·rw [Array.getElem?_eq_none h1] at this; cases this)]
   exact this
  obj := fun i o hi => (h.obj i o hi).mono PHeap.le.rfl' Sig.le.rfl' (fun l h1 h2 h3 => ⟨by
   show (w.heap ++ os)[l.b]? = _
   refine hold _ ?_
   exact (ObjOK.alive h.obj ⟨_, hi, h1, h2, h3⟩).2, rfl⟩)
  inj := h.inj
  sig := h.sig
  os := h.os
  tape := h.tape
  output := h.output
  size := by show _ ≤ (w.heap ++ os).size; rw [Array.size_append]; have := h.size; omega
  frame := fun b hb hd => by
   show (w.heap ++ os)[b]? = _ ∧ _
   rw [hold b (Nat.lt_of_lt_of_le hb h.size)]
   exact h.frame b hb hd
  own := h.own
  ple := h.ple
  sle := h.sle }
theorem putRow_eq {b o : Nat} {ca : Array Value} {ty : TypeId} (hb : w.heap[b]? = some (.cells ca ty (0, 0))) (zs : List ByteArray) (hsz : o + zs.length ≤ ca.size) :
  putRow encStr w b o (zs.map toL).toArray = { w with heap := w.heap.setIfInBounds b (.cells (spliceA ca o (zs.map Value.string)) ty (0, 0)) } := by
 unfold putRow mapBlock
 congr 1
 apply Array.ext_getElem?
 intro i
 rw [Array.getElem?_modify, Array.getElem?_setIfInBounds]
 by_cases hi : b = i
 ·subst hi
  rw [if_pos rfl, if_pos rfl, hb]
  have hlt : b < w.heap.size := by
   rcases Nat.lt_or_ge b w.heap.size with h1 | h1
   ·exact h1
   ·rw [Array.getElem?_eq_none h1] at hb; cases hb
  rw [if_pos hlt]
  simp only [Option.map_some, onCells]
  congr 2
  apply Array.ext_getElem?
  intro j
  rw [spliceA_get _ _ _ _ (by simpa using hsz)]
  simp only [putCells, Array.getElem?_mapIdx, List.size_toArray, List.length_map]
  by_cases hj : o ≤ j ∧ j < o + zs.length
  ·rw [if_pos hj]
   have hjc : j < ca.size := by omega
   rw [Array.getElem?_eq_getElem hjc]
   simp only [Option.map_some, if_pos hj]
   have hjz : j - o < zs.length := by omega
   rw [List.getElem?_map, List.getElem?_eq_getElem hjz]
   simp only [Option.map_some, Option.some.injEq]
   rw [getElem!_pos _ _ (by simpa using hjz)]
   simp only [List.getElem_toArray, List.getElem_map]
   show Value.string ⟨(toL _).toArray⟩ = _
   rw [show (⟨(toL zs[j - o]).toArray⟩ : ByteArray) = ofL (toL zs[j - o]) from rfl, ofL_toL]
  ·rw [if_neg hj]
   cases hc : ca[j]? with
   | none => rfl
   | some v => simp only [Option.map_some, if_neg hj]
 ·rw [if_neg hi, if_neg hi]
theorem SR.putStrs (h : SR C p σ s w) {i : Nat} {loc : Loc} {l l2 : List ByteArray} (hi : s[i]? = some (.rows 1 (l.map strRow))) (hσ : σ i = some loc) (hn : 0 < l.length) (hl : l2.length = l.length) (hok : ∀ b ∈ l2, b.size ≤ maxLen) :
  SR C p σ (s.set i (.rows 1 (l2.map strRow))) (putRow encStr w loc.b loc.o (l2.map toL).toArray) := by
 obtain ⟨hn', hle, ca, ty, hb, hsz, hR⟩ := h.rows hi hσ (by intro e; simp at e; subst e; simp at hn)
 obtain ⟨l', hl1, hl2, _⟩ := h.obj i _ hi
 rw [hσ] at hl1; cases hl1
 rw [List.length_map] at hle
 rw [hl2] at hsz hR
 rw [putRow_eq hb l2 (by omega)]
 have := h.putRows (off := 0) (ys := l2.map strRow) (vs := l2.map Value.string) hi hσ hn' hb (by rw [hl2]; exact hsz) (by simp [hl]) (by rw [hl2]; exact hR) (by simp [hl2]) (by
  rw [hl2]
  refine ⟨fun r row hr => ?_, fun r row j v c hr hj hc => ?_⟩
  ·rw [List.getElem?_map, Option.map_eq_some_iff] at hr
   obtain ⟨b, _, rfl⟩ := hr; rfl
  ·rw [List.getElem?_map, Option.map_eq_some_iff] at hr
   obtain ⟨b, hb2, rfl⟩ := hr
   obtain rfl : j = 0 := by have := lt_of_getElem? hj; simp [strRow] at this; omega
   simp only [strRow, List.getElem?_cons_zero, Option.some.injEq] at hj
   subst hj
   rw [Nat.zero_add, Nat.mul_one, Nat.add_zero, List.getElem?_toArray, List.getElem?_map, hb2] at hc
   simp only [Option.map_some, Option.some.injEq] at hc
   subst hc
   exact .str (hok b (List.mem_of_getElem? hb2)))
 rw [Nat.zero_mul, Nat.add_zero] at this
 have e : Pv.putRows (l.map strRow) (l2.map strRow) 0 = l2.map strRow := by
  simp [Pv.putRows, hl]
 rw [e] at this
 exact this
theorem holds_strs (h : Base p σ s w) {i : Nat} {loc : Loc} {l : List ByteArray} (hi : s[i]? = some (.rows 1 (l.map strRow))) (hσ : σ i = some loc) (hn : 0 < l.length) :
  Holds encStr w loc.b loc.o (l.map toL).toArray ∧ loc.b < w.heap.size ∧ ∀ b ∈ l, b.size ≤ maxLen := by
 have h := SR.start h
 obtain ⟨hn', hle, ca, ty, hb, hsz, hR⟩ := h.rows hi hσ (by intro e; simp at e; subst e; simp at hn)
 obtain ⟨l', hl1, hl2, _⟩ := h.obj i _ hi
 rw [hσ] at hl1; cases hl1
 rw [List.length_map] at hle
 rw [hl2] at hsz hR
 have hlt : loc.b < w.heap.size := by
  rcases Nat.lt_or_ge loc.b w.heap.size with h1 | h1
  ·exact h1
  ·rw [Array.getElem?_eq_none h1] at hb; cases hb
 have hcell : ∀ (j : Nat) (hj : j < l.length), ca[loc.o + j]? = some (.string l[j]) ∧ l[j].size ≤ maxLen := by
  intro j hj
  have hjc : loc.o + j < ca.size := by omega
  have := hR.rel j (strRow l[j]) 0 (.str l[j]) ca[loc.o + j] (by rw [List.getElem?_map, List.getElem?_eq_getElem hj]; rfl) rfl (by rw [Nat.mul_one, Nat.add_zero]; exact Array.getElem?_eq_getElem hjc)
  rw [Array.getElem?_eq_getElem hjc]
  generalize ca[loc.o + j] = c at this
  cases this with
  | str h => exact ⟨rfl, h⟩
 refine ⟨fun j hj => ?_, hlt, fun b hb => ?_⟩
 ·simp only [List.size_toArray, List.length_map] at hj
  obtain ⟨h1, _⟩ := hcell j hj
  refine ⟨?_, ?_⟩
  ·unfold World.cell?
   rw [hb]
   simp only [Option.isSome_none, Bool.false_eq_true, if_false]
   rw [h1, getElem!_pos _ _ (by simpa using hj)]
   simp only [List.getElem_toArray, List.getElem_map]
   show _ = some (Value.string (ofL (toL l[j])))
   rw [ofL_toL]
  ·unfold World.frozen?
   rw [hb]
   simp
 ·obtain ⟨j, hj, rfl⟩ := List.getElem_of_mem hb
  exact (hcell j hj).2
end
theorem set_same {s : Store} {i : Nat} {o : PObj} (h : s[i]? = some o) : s.set i o = s := by
 apply List.ext_getElem?
 intro j
 rw [List.getElem?_set]
 split
 ·subst_vars
  rw [if_pos (lt_of_getElem? h), h]
 ·rfl
theorem sort_strs (s : Store) (i : Nat) (l : List ByteArray) (hi : s[i]? = some (.rows 1 (l.map strRow))) (hl : l.length < 4611686018427387904) :
  CallOK Go.Proofs.Try.prog 103 [.sl i 0 l.length] s (.tuple []) (s.set i (.rows 1 ((sortL l).map strRow))) := by
 intro pub σ w cargs hb ha
 obtain ⟨c, rfl⟩ : ∃ c, cargs = #[c] := by
  have := ha.1
  match cargs, this with
  | ⟨[c]⟩, _ => exact ⟨c, rfl⟩
 have hr := ha.2 0 _ _ rfl rfl
 cases hr with
 | sl hσ hlen hcap ha2 =>
  rename_i loc ad cap
  by_cases h0 : l.length = 0
  ·have hle : l = [] := List.length_eq_zero_iff.1 h0
   subst hle
   refine Calls.mono (calls_of_every_depth fun D => AnyS.slices_Sort_string_none_alone Go.Proofs.Try.laysSort D ad cap w) ?_
   rintro e w' ⟨rfl, rfl⟩
   refine ⟨_, pub, σ, rfl, ?_, .tuple rfl fun j v c h => by simp at h⟩
   rw [show (sortL []).map strRow = [] from by simp [sortL], set_same (by simpa using hi)]
   exact SR.start hb
  ·obtain ⟨rfl, hn⟩ := ha2 (by omega)
   obtain ⟨hH, hlt, hmx⟩ := holds_strs hb hi hσ (by omega)
   rw [Nat.zero_mul, Nat.add_zero]
   have hc := calls_of_every_depth fun D => AnyS.slices_Sort_string_alone Go.Proofs.Try.laysSort D loc.b loc.o cap (l.map toL) w hH hlt (by simpa using hl)
   rw [List.length_map] at hc
   refine Calls.mono hc ?_
   rintro e w' ⟨rfl, n, os, rfl⟩
   refine ⟨_, pub, σ, rfl, ?_, .tuple rfl fun j v c h => by simp at h⟩
   rw [← sortL_toL]
   refine SR.grown ?_ os
   refine SR.putStrs (l := l) (l2 := sortL l) ((SR.start hb).drawn (w' := Go.Sort.ahead w n) rfl rfl rfl rfl) hi hσ (by omega) (sortL_length l) fun b hbm => ?_
   unfold sortL at hbm
   obtain ⟨x, hx, rfl⟩ := List.mem_map.1 hbm
   rw [List.mem_mergeSort] at hx
   obtain ⟨b, hb2, rfl⟩ := List.mem_map.1 hx
   rw [ofL_toL]
   exact hmx b hb2
theorem compact_strs (s : Store) (i : Nat) (l : List ByteArray) (hi : s[i]? = some (.rows 1 (l.map strRow))) (hl : l.length < 4611686018427387904) :
  CallOK Go.Proofs.Try.prog 104 [.sl i 0 l.length] s (.sl i 0 (compL l).length) (s.set i (.rows 1 ((compL l ++ List.replicate (l.length - (compL l).length) (⟨#[]⟩ : ByteArray)).map strRow))) := by
 intro pub σ w cargs hb ha
 obtain ⟨c, rfl⟩ : ∃ c, cargs = #[c] := by
  have := ha.1
  match cargs, this with
  | ⟨[c]⟩, _ => exact ⟨c, rfl⟩
 have hr := ha.2 0 _ _ rfl rfl
 cases hr with
 | sl hσ hlen hcap ha2 =>
  rename_i loc ad cap
  by_cases h0 : l.length = 0
  ·have hle : l = [] := List.length_eq_zero_iff.1 h0
   subst hle
   refine Calls.mono (calls_of_every_depth fun D => AnyS.slices_Compact_string_empty_in Go.Proofs.Try.laysCompact D ad cap w) ?_
   rintro e w' ⟨rfl, rfl⟩
   have hce : compL [] = [] := List.length_eq_zero_iff.1 (Nat.le_zero.1 (compL_length []))
   refine ⟨_, pub, σ, rfl, ?_, ?_⟩
   ·rw [hce]
    simp only [List.length_nil, Nat.sub_self, List.replicate_zero, List.append_nil, List.map_nil]
    rw [set_same (by simpa using hi)]
    exact SR.start hb
   ·rw [hce]; exact .sl hσ hlen hcap ha2
  ·obtain ⟨rfl, hn⟩ := ha2 (by omega)
   obtain ⟨hH, hlt, hmx⟩ := holds_strs hb hi hσ (by omega)
   rw [Nat.zero_mul, Nat.add_zero]
   have hc := calls_of_every_depth fun D => AnyS.slices_Compact_string_in Go.Proofs.Try.laysCompact D loc.b loc.o cap (l.map toL) w hH (by simp; omega) (by simpa using hlen)
   rw [List.length_map] at hc
   refine Calls.mono hc ?_
   rintro e w' ⟨rfl, n, rfl⟩
   have hcl : (Lib.compact (l.map toL)).length = (compL l).length := by simp [compL]
   rw [hcl]
   refine ⟨_, pub, σ, rfl, ?_, ?_⟩
   ·have he : Lib.compact (l.map toL) ++ List.replicate (l.length - (compL l).length) [] = (compL l ++ List.replicate (l.length - (compL l).length) (⟨#[]⟩ : ByteArray)).map toL := by
     rw [List.map_append, compL_toL]; simp [toL]
    rw [he]
    have hcle := compL_length l
    refine SR.putStrs ((SR.start hb).drawn (w' := Go.Sort.ahead w n) rfl rfl rfl rfl) hi hσ (by omega) (by simp; omega) fun b hbm => ?_
    rcases List.mem_append.1 hbm with hbm | hbm
    ·unfold compL at hbm
     obtain ⟨x, hx, rfl⟩ := List.mem_map.1 hbm
     have hx2 := mem_of_compact hx
     obtain ⟨b, hb2, rfl⟩ := List.mem_map.1 hx2
     rw [ofL_toL]
     exact hmx b hb2
    ·rw [List.mem_replicate] at hbm
     rw [hbm.2]; simp [maxLen]
   ·have hcle := compL_length l
    refine .sl hσ (by omega) hcap fun h => ⟨by rw [Nat.zero_mul, Nat.add_zero], hn⟩
theorem sort_strs' {s : Store} {i n : Nat} (l : List ByteArray) (hi : s[i]? = some (.rows 1 (l.map strRow))) (hn : l.length = n) (hl : n ≤ 1000000) :
  CallOK Go.Proofs.Try.prog 103 [.sl i 0 n] s (.tuple []) (s.set i (.rows 1 ((sortL l).map strRow))) := by
 subst hn; exact sort_strs s i l hi (by omega)
theorem compact_strs' {s : Store} {i n : Nat} (l : List ByteArray) (hi : s[i]? = some (.rows 1 (l.map strRow))) (hn : l.length = n) (hl : n ≤ 1000000) :
  CallOK Go.Proofs.Try.prog 104 [.sl i 0 n] s (.sl i 0 (compL l).length) (s.set i (.rows 1 ((compL l ++ List.replicate (n - (compL l).length) (⟨#[]⟩ : ByteArray)).map strRow))) := by
 subst hn; exact compact_strs s i l hi (by omega)
end Go.Pv
namespace Go.Pv
open Go Go.Lib
def Ris (l : List ByteArray) : Prop := l.Pairwise fun a b => toL a < toL b
theorem lt_tri (a b : List UInt8) : a < b ∨ a = b ∨ b < a := by
 rcases List.le_total a b with h | h
 ·by_cases e : a = b
  ·exact .inr (.inl e)
  ·exact .inl (Decidable.byContradiction fun hn => e (List.le_antisymm h (List.not_lt.1 hn)))
 ·by_cases e : a = b
  ·exact .inr (.inl e)
  ·exact .inr (.inr (Decidable.byContradiction fun hn => e (List.le_antisymm (List.not_lt.1 hn) h)))
theorem comp_upTo (zs : List (List UInt8)) (hs : zs.Pairwise fun a b => a ≤ b) : ∀ m, m ≤ zs.length → (∀ x, x ∈ compactUpTo zs.toArray m ↔ x ∈ zs.take m) ∧ (compactUpTo zs.toArray m).Pairwise fun a b => a < b := by
 intro m
 induction m with
 | zero => intro _; simp [compactUpTo]
 | succ m ih =>
  intro hm
  obtain ⟨h1, h2⟩ := ih (by omega)
  have hml : m < zs.length := by omega
  have hget : zs.toArray[m]! = zs[m] := by rw [getElem!_pos _ _ (by simpa using hml)]; simp
  rw [compactUpTo_succ, List.take_add_one, List.getElem?_eq_getElem hml]
  simp only [Option.toList]
  have hord : ∀ i j (hi : i < zs.length) (hj : j < zs.length), i < j → zs[i] ≤ zs[j] := fun i j hi hj hij => List.pairwise_iff_getElem.1 hs i j hi hj hij
  by_cases hk : keeps zs.toArray m = true
  ·rw [if_pos hk, hget]
   refine ⟨fun x => by rw [List.mem_append, List.mem_append, h1], ?_⟩
   rw [List.pairwise_append]
   refine ⟨h2, List.pairwise_singleton _ _, fun a ha b hb => ?_⟩
   rw [List.mem_singleton] at hb
   subst hb
   rw [h1] at ha
   obtain ⟨i, hi, rfl⟩ := List.getElem_of_mem ha
   rw [List.length_take] at hi
   rw [List.getElem_take]
   have hle := hord i m (by omega) hml (by omega)
   rcases lt_tri zs[i] zs[m] with h | h | h
   ·exact h
   ·exfalso
    simp only [keeps, decide_eq_true_eq] at hk
    rcases hk with hk | hk
    ·omega
    ·rw [hget, getElem!_pos _ _ (by simp; omega)] at hk
     simp only [List.getElem_toArray] at hk
     apply hk
     have g1 := hord (m - 1) m (by omega) hml (by omega)
     by_cases e : i = m - 1
     ·subst e; exact h.symm
     ·have g2 := hord i (m - 1) (by omega) (by omega) (by omega)
      rw [h] at g2
      exact List.le_antisymm g2 g1
   ·exact absurd h (List.not_lt.2 hle)
  ·rw [if_neg hk, List.append_nil]
   refine ⟨fun x => ?_, h2⟩
   rw [h1, List.mem_append, List.mem_singleton]
   constructor
   ·exact .inl
   ·rintro (h | rfl)
    ·exact h
    ·simp only [keeps, decide_eq_true_eq, not_or, Decidable.not_not] at hk
     obtain ⟨h0, hk⟩ := hk
     rw [hget, getElem!_pos _ _ (by simp; omega)] at hk
     simp only [List.getElem_toArray] at hk
     rw [hk]
     rw [List.mem_take_iff_getElem]
     exact ⟨m - 1, by omega, rfl⟩
theorem comp_ok (l : List ByteArray) : Ris (compL (sortL l)) ∧ ∀ x, x ∈ compL (sortL l) ↔ x ∈ l := by
 have hs : ((sortL l).map toL).Pairwise fun a b => a ≤ b := by
  rw [sortL_toL]
  have := List.pairwise_mergeSort (le := fun x y : List UInt8 => decide (x ≤ y)) (fun a b c h1 h2 => by simpa using List.le_trans (by simpa using h1) (by simpa using h2)) (fun a b => by simpa using List.le_total a b) (l.map toL)
  simpa using this
 obtain ⟨h1, h2⟩ := comp_upTo _ hs ((sortL l).map toL).length (Nat.le_refl _)
 constructor
 ·unfold Ris compL
  rw [List.pairwise_map]
  refine h2.imp fun h => ?_
  rw [toL_ofL, toL_ofL]; exact h
 ·intro x
  unfold compL
  rw [List.mem_map]
  constructor
  ·rintro ⟨y, hy, rfl⟩
   have := (h1 y).1 hy
   rw [List.take_length, sortL_toL, List.mem_mergeSort, List.mem_map] at this
   obtain ⟨b, hb, rfl⟩ := this
   rw [ofL_toL]; exact hb
  ·intro hx
   refine ⟨toL x, (h1 _).2 ?_, ofL_toL x⟩
   rw [List.take_length, sortL_toL, List.mem_mergeSort]
   exact List.mem_map.2 ⟨x, hx, rfl⟩
end Go.Pv
