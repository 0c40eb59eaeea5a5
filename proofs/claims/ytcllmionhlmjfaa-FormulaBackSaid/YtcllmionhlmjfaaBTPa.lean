import Derived.Test.YtcllmionhlmjfaaBFpC
import Derived.Test.YtcllmionhlmjfaaBFormB
import Derived.Test.YtcllmionhlmjfaaBFormA
import Derived.Test.YtcllmionhlmjfaaBPvQt
set_option linter.unusedVariables false
set_option linter.unusedSimpArgs false
set_option maxRecDepth 100000
set_option maxHeartbeats 4000000
set_option linter.unusedSectionVars false
namespace Go.Proofs.Ytcllmionhlmjfaa
open Go Go.Pv
def PPf (t : ByteArray) : Nat → (Nat → Res) × (Nat → Res)
 | 0 => (fun i => .error i, fun i => .error i)
 | n + 1 => (notP t (PPf t n).1 (PPf t n).2, thenP t (opP t ⟨#[124]⟩ 6 (opP t ⟨#[38]⟩ 5 (notP t (PPf t n).1 (PPf t n).2))) (PPf t n).2)
theorem reader_told (t : ByteArray) (hs : t.size ≤ 1000000) : ∀ n i, i ≤ t.size → t.size - i < n → Told 128 t i ((PPf t n).1 i) ∧ Told 56 t i ((PPf t n).2 i) := by
 intro n
 induction n with
 | zero => intro i _ h; omega
 | succ n ih =>
  intro i hi hn
  have hN : ∀ j, i ≤ j → j ≤ t.size → Told 128 t j (notP t (PPf t n).1 (PPf t n).2 j) := fun j h1 h2 =>
   not_reader t j hs h2 _ _ (fun k h3 h4 => (ih k h4 (by omega)).1) (fun k h3 h4 => (ih k h4 (by omega)).2)
  have le_of : ∀ {F j R}, Told F t j R → ∀ f k, R = .ok (f, k) → j ≤ k ∧ k ≤ t.size := fun h f k e => by rw [e] at h; exact h.2
  refine ⟨hN i (Nat.le_refl _) hi, ?_⟩
  refine then_reader t i hs hi _ _ ?_ (fun k h3 h4 => (ih k h4 (by omega)).2)
  exact or_reader t i hs hi _ fun j h1 h2 => and_reader t j hs h2 _ fun k h3 h4 => hN k (by omega) h4
def parseR (t : ByteArray) : Res := (PPf t (t.size + 1)).2 0
theorem parse_told (t : ByteArray) (hs : t.size ≤ 1000000) : Told 56 t 0 (parseR t) := (reader_told t hs _ 0 (by omega) (by omega)).2
def parseO (t : ByteArray) : Fm × Int × Int :=
 if 20000 < t.size then (.mk 0 ⟨#[]⟩ [], 2, 0) else match parseR t with
 | .error p => (.mk 0 ⟨#[]⟩ [], 1, (p : Int))
 | .ok (f, j) => if bl t j < t.size then (.mk 0 ⟨#[]⟩ [], 1, (bl t j : Int)) else if 200 < (nodesGo 201 201 [f]).length then (.mk 0 ⟨#[]⟩ [], 2, 0) else (f, 0, 0)
def x55 : XC := .seq (.reg [⟨some 5,.call ⟨.builtin .recover,#[],#[]⟩,none⟩]) (.block 0 (.seq (.reg [⟨some 7,.binOp .eql 20 (.tmp 5) (.const .nilIface) 20,none⟩]) (.cond (.tmp 7) (.reg [⟨some 2,.assign (.tmp 5),none⟩]) (.seq (.reg [⟨some 8,.typeAssert (.tmp 5) 20 82 true,none⟩,⟨some 9,.extract (.tmp 8) 1,none⟩,⟨some 10,.extract (.tmp 8) 0,none⟩]) (.cond (.tmp 9) (.seq (.reg [⟨some 3,.alloc 82,none⟩,⟨none,.store 82 (.tmp 3) (.tmp 10),none⟩]) (.drawn 7 [⟨some 11,.build 24 #[],none⟩,⟨some 12,.fieldAddr 82 (.tmp 3) 0,none⟩,⟨some 13,.load 29 (.tmp 12),none⟩,⟨none,.store 24 (.tmp 0) (.tmp 11),none⟩,⟨none,.store 29 (.tmp 1) (.tmp 13),none⟩])) (.seq (.reg [⟨some 4,.assign (.tmp 5),none⟩]) (.reg [⟨some 6,.move (.tmp 4),none⟩,⟨none,.panic (.tmp 6),none⟩])))))))
@[simp] theorem x55_s {C e s K} : type_of% (@X_at C e s K _ _ x55.eq_1) := X_at x55.eq_1
def an55 : Ann := ⟨[(7, .tree (.op 0 (.op 1 (.op 2 (.op 3 (.ck 2 (.op 4 .fin)))))))], [], []⟩
@[simp] theorem an55_a : an55.clsOf 7 = .tree (.op 0 (.op 1 (.op 2 (.op 3 (.ck 2 (.op 4 .fin)))))) ∧ an55.frzOf 7 = [] := ⟨rfl, rfl⟩
theorem fr_parse : FR Try.prog 55 (cxA an55) 5 (sndX x55) [] Try.f55 := frA Try.func55 mixed (by decide +kernel) (by kernel_rfl) (by kernel_rfl)
@[simp] theorem xn_nil : xnilI Try.prog 20 .niliface = some (.bool true) := by kernel_rfl
@[simp] theorem xn_some (t : TypeId) (v : PV) : xnilI Try.prog 20 (.iface t v) = some (.bool false) := by kernel_rfl
theorem parse1_none (f : Fm) : CallRec Try.prog 55 none [.ptr 0 0 0, .ptr 1 0 0] [.rows 3 [frm f], .rows 2 [[.int .i64 0, .int .i64 0]]] [.rows 3 [frm f], .rows 2 [[.int .i64 0, .int .i64 0]]] := by
 refine FR.og (v := .tuple []) fr_parse (r := none) (rv := .niliface) rfl ?_
 simp only [x55, sndX]
 have hr2 : List.range 2 = [0, 1] := rfl
 ((refine Sg.h ?_); try repeat' ((first | (with_reducible first | refine brA ?_ | refine brE fun _ => ?_ | (refine spl ⟨?_, ?_⟩ <;> intro _))) <;> ((try simp -implicitDefEqProofs [hr2]); (try simp -implicitDefEqProofs (disch := first | assumption | (try simp only [lens]); omega -splitDisjunctions) [hr2]))))
theorem parse1_none0 : CallRec Try.prog 55 none [.ptr 0 0 0, .ptr 1 0 0] [.rows 3 [[.int .i64 0, .str ⟨#[]⟩, .nilsl]], .rows 2 [[.int .i64 2, .int .i64 0]]] [.rows 3 [[.int .i64 0, .str ⟨#[]⟩, .nilsl]], .rows 2 [[.int .i64 2, .int .i64 0]]] := by
 refine FR.og (v := .tuple []) fr_parse (r := none) (rv := .niliface) rfl ?_
 simp only [x55, sndX]
 have hr2 : List.range 2 = [0, 1] := rfl
 ((refine Sg.h ?_); try repeat' ((first | (with_reducible first | refine brA ?_ | refine brE fun _ => ?_ | (refine spl ⟨?_, ?_⟩ <;> intro _))) <;> ((try simp -implicitDefEqProofs [hr2]); (try simp -implicitDefEqProofs (disch := first | assumption | (try simp only [lens]); omega -splitDisjunctions) [hr2]))))
theorem parse1_stop (f : Fm) (p : Nat) : CallRec Try.prog 55 (some (stopV p)) [.ptr 0 0 0, .ptr 1 0 0] [.rows 3 [frm f], .rows 2 [[.int .i64 0, .int .i64 0]]] [.rows 3 [[.int .i64 0, .str ⟨#[]⟩, .nilsl]], .rows 2 [[.int .i64 1, .int .i64 (p : Int)]]] := by
 refine FR.og (v := .tuple []) fr_parse (r := some (stopV p)) (pan_stop p) ?_
 simp only [x55, sndX]
 have hr2 : List.range 2 = [0, 1] := rfl
 ((refine Sg.h ?_); try repeat' ((first | (with_reducible first | refine brA ?_ | refine brE fun _ => ?_ | (refine spl ⟨?_, ?_⟩ <;> intro _))) <;> ((try simp -implicitDefEqProofs [hr2]); (try simp -implicitDefEqProofs (disch := first | assumption | (try simp only [lens]); omega -splitDisjunctions) [hr2]))))
theorem parse1_stop0 (p : Nat) : CallRec Try.prog 55 (some (stopV p)) [.ptr 0 0 0, .ptr 1 0 0] [.rows 3 [[.int .i64 0, .str ⟨#[]⟩, .nilsl]], .rows 2 [[.int .i64 0, .int .i64 0]]] [.rows 3 [[.int .i64 0, .str ⟨#[]⟩, .nilsl]], .rows 2 [[.int .i64 1, .int .i64 (p : Int)]]] := by
 refine FR.og (v := .tuple []) fr_parse (r := some (stopV p)) (pan_stop p) ?_
 simp only [x55, sndX]
 have hr2 : List.range 2 = [0, 1] := rfl
 ((refine Sg.h ?_); try repeat' ((first | (with_reducible first | refine brA ?_ | refine brE fun _ => ?_ | (refine spl ⟨?_, ?_⟩ <;> intro _))) <;> ((try simp -implicitDefEqProofs [hr2]); (try simp -implicitDefEqProofs (disch := first | assumption | (try simp only [lens]); omega -splitDisjunctions) [hr2]))))
def x19 : XC := .seq (.reg [⟨some 2,.alloc 24,none⟩,⟨some 3,.alloc 29,none⟩]) (.seq (.seq (.reg [⟨some 5,.move (.tmp 0),none⟩,⟨some 6,.call ⟨.builtin .len,#[.tmp 5],#[9]⟩,none⟩,⟨some 7,.binOp .gtr 3 (.tmp 6) (.const (.int .i64 20000)) 3,none⟩]) (.cond (.tmp 7) (.seq (.drawn 2 [⟨some 8,.load 24 (.tmp 2),none⟩,⟨some 9,.call ⟨.value (.func 50),#[.const (.int .i64 2),.const (.int .i64 0)],#[3,3]⟩,none⟩,⟨none,.store 24 (.tmp 2) (.tmp 8),none⟩,⟨none,.store 29 (.tmp 3) (.tmp 9),none⟩]) .ret) .skip)) (.seq (.reg [⟨some 10,.makeFunc (.func 55) #[] #[.tmp 2,.tmp 3],none⟩,⟨none,.defer ⟨.value (.tmp 10),#[],#[]⟩,none⟩]) (.seq (.reg [⟨some 11,.move (.tmp 0),none⟩,⟨some 12,.build 85 #[(0,.tmp 11)],none⟩,⟨some 13,.box 85 (.tmp 12),none⟩,⟨some 4,.assign (.tmp 13),none⟩]) (.seq (.reg [⟨some 14,.move (.tmp 4),none⟩,⟨some 15,.call ⟨.value (.func 56),#[.tmp 14],#[83]⟩,none⟩,⟨none,.store 24 (.tmp 2) (.tmp 15),none⟩]) (.seq (.seq (.reg [⟨some 16,.move (.tmp 4),none⟩,⟨some 17,.call ⟨.value (.func 57),#[.tmp 16],#[83]⟩,none⟩]) (.seq (.reg [⟨some 18,.move (.tmp 4),none⟩,⟨some 19,.nilCheck (.tmp 18),none⟩,⟨some 20,.fieldAddr 85 (.tmp 19) 1,none⟩,⟨some 21,.load 3 (.tmp 20),none⟩,⟨some 22,.move (.tmp 0),none⟩,⟨some 23,.call ⟨.builtin .len,#[.tmp 22],#[9]⟩,none⟩,⟨some 24,.binOp .lss 3 (.tmp 21) (.tmp 23) 3,none⟩]) (.cond (.tmp 24) (.reg [⟨some 25,.move (.tmp 4),none⟩,⟨some 26,.call ⟨.value (.func 58),#[.tmp 25],#[83]⟩,none⟩]) .skip))) (.seq (.seq (.reg [⟨some 27,.load 24 (.tmp 2),none⟩,⟨some 28,.call ⟨.value (.func 48),#[.tmp 27,.const (.int .i64 201)],#[24,3]⟩,none⟩,⟨some 29,.call ⟨.builtin .len,#[.tmp 28],#[22]⟩,none⟩,⟨some 30,.binOp .gtr 3 (.tmp 29) (.const (.int .i64 200)) 3,none⟩]) (.cond (.tmp 30) (.seq (.reg [⟨some 31,.build 24 #[],none⟩,⟨some 32,.call ⟨.value (.func 50),#[.const (.int .i64 2),.const (.int .i64 0)],#[3,3]⟩,none⟩,⟨none,.store 24 (.tmp 2) (.tmp 31),none⟩,⟨none,.store 29 (.tmp 3) (.tmp 32),none⟩]) .ret) .skip)) (.seq (.drawn 11 [⟨some 33,.load 24 (.tmp 2),none⟩,⟨some 34,.load 29 (.tmp 3),none⟩,⟨none,.store 24 (.tmp 2) (.tmp 33),none⟩,⟨none,.store 29 (.tmp 3) (.tmp 34),none⟩]) .ret)))))))
@[simp] theorem x19_s {C e s K} : type_of% (@X_at C e s K _ _ x19.eq_1) := X_at x19.eq_1
def an19 : Ann := ⟨[(2, .mix 2), (11, .mix3 2 1)], [], []⟩
@[simp] theorem an19_a : an19.clsOf 2 = .mix 2 ∧ an19.clsOf 11 = .mix3 2 1 ∧ an19.frzOf 2 = [] ∧ an19.frzOf 11 = [] := ⟨rfl, rfl, rfl, rfl⟩
theorem fd_parse : FD Try.prog 19 (cxA an19) (preX 2 x19) 10 55 [.tmp 2, .tmp 3] (dropX 3 x19) [.cell 2 24, .cell 3 29] Try.f19 := fdA Try.func19 mixed (by decide +kernel) (by kernel_rfl) (by kernel_rfl)
theorem Parse_formula (t : ByteArray) : CallOK Try.prog 19 [.str t] [] (.tuple [.agg (frm (parseO t).1), .agg [.int .i64 (parseO t).2.1, .int .i64 (parseO t).2.2]]) [] := by
 have hf1 := fault_formula 2 0 []
 refine FD.os fd_parse ?_
 simp only [x19, preX, dropX]
 unfold parseO
 by_cases hm : 20000 < t.size
 ·rw [if_pos hm]
  have hm' : (20000 : Int) < (t.size : Int) := by omega
  ((refine Sg.h ?_); try repeat' ((first | (with_reducible first | refine brA ?_ | refine brE fun _ => ?_ | (refine spl ⟨?_, ?_⟩ <;> intro _)) | refine clo hf1 ?_) <;> ((try simp -implicitDefEqProofs [hm']); (try simp -implicitDefEqProofs (disch := first | assumption | (try simp only [lens]); omega -splitDisjunctions) [hm']))))
  rfl
 ·rw [if_neg hm]
  have hm' : ¬ (20000 : Int) < (t.size : Int) := by omega
  have hs : t.size ≤ 1000000 := by omega
  have h0 := parse_told t hs
  cases hp0 : parseR t with
  | error q =>
   rw [hp0] at h0
   simp only [Told] at h0
   ((refine Sg.h ?_); try repeat' ((first | (with_reducible first | refine brA ?_ | refine brE fun _ => ?_ | (refine spl ⟨?_, ?_⟩ <;> intro _)) | refine clo hf1 ?_) <;> ((try simp -implicitDefEqProofs [hm']); (try simp -implicitDefEqProofs (disch := first | assumption | (try simp only [lens]); omega -splitDisjunctions) [hm']))))
   refine CL.psub [2] h0 ?_
   ((refine Sg.h ?_); try repeat' ((first | (with_reducible first | refine brA ?_ | refine brE fun _ => ?_ | (refine spl ⟨?_, ?_⟩ <;> intro _))) <;> ((try simp -implicitDefEqProofs); (try simp -implicitDefEqProofs (disch := first | assumption | (try simp only [lens]); omega -splitDisjunctions)))))
   refine DRec.sub [0, 1] (parse1_stop0 q) ?_
   ((refine Sg.h ?_); try repeat' ((first | (with_reducible first | refine brA ?_ | refine brE fun _ => ?_ | (refine spl ⟨?_, ?_⟩ <;> intro _))) <;> ((try simp -implicitDefEqProofs); (try simp -implicitDefEqProofs (disch := first | assumption | (try simp only [lens]); omega -splitDisjunctions)))))
   all_goals first | rfl | skip
  | ok r =>
   obtain ⟨f, j⟩ := r
   rw [hp0] at h0
   obtain ⟨h0, h1, h2⟩ := h0
   have hb := blanks_reader t j hs h2
   have hbl := bl_le h2
   have hf2 := fail_reader t (bl t j)
   have hn := nodes_formula f 201 (by decide) []
   simp only
   generalize bl t j = k at *
   by_cases hk : k < t.size
   ·rw [if_pos hk]
    have hk' : (k : Int) < (t.size : Int) := by omega
    ((refine Sg.h ?_); try repeat' ((first | (with_reducible first | refine brA ?_ | refine brE fun _ => ?_ | (refine spl ⟨?_, ?_⟩ <;> intro _)) | refine clo hf1 ?_) <;> ((try simp -implicitDefEqProofs [hm']); (try simp -implicitDefEqProofs (disch := first | assumption | (try simp only [lens]); omega -splitDisjunctions) [hm']))))
    refine CL.sub [2] h0 ?_
    ((refine Sg.h ?_); try repeat' ((first | (with_reducible first | refine brA ?_ | refine brE fun _ => ?_ | (refine spl ⟨?_, ?_⟩ <;> intro _))) <;> ((try simp -implicitDefEqProofs); (try simp -implicitDefEqProofs (disch := first | assumption | (try simp only [lens]); omega -splitDisjunctions)))))
    refine CL.sub [2] hb ?_
    ((refine Sg.h ?_); try repeat' ((first | (with_reducible first | refine brA ?_ | refine brE fun _ => ?_ | (refine spl ⟨?_, ?_⟩ <;> intro _))) <;> ((try simp -implicitDefEqProofs [hk']); (try simp -implicitDefEqProofs (disch := first | assumption | (try simp only [lens]); omega -splitDisjunctions) [hk']))))
    refine CL.psub [2] hf2 ?_
    ((refine Sg.h ?_); try repeat' ((first | (with_reducible first | refine brA ?_ | refine brE fun _ => ?_ | (refine spl ⟨?_, ?_⟩ <;> intro _))) <;> ((try simp -implicitDefEqProofs); (try simp -implicitDefEqProofs (disch := first | assumption | (try simp only [lens]); omega -splitDisjunctions)))))
    refine DRec.sub (s2 := [.rows 3 [[.int .i64 0, .str ⟨#[]⟩, .nilsl]], .rows 2 [[.int .i64 1, .int .i64 (k : Int)]]]) [0, 1] (by simpa using parse1_stop f k) ?_
    ((refine Sg.h ?_); try repeat' ((first | (with_reducible first | refine brA ?_ | refine brE fun _ => ?_ | (refine spl ⟨?_, ?_⟩ <;> intro _))) <;> ((try simp -implicitDefEqProofs); (try simp -implicitDefEqProofs (disch := first | assumption | (try simp only [lens]); omega -splitDisjunctions)))))
    all_goals first | rfl | skip
   ·rw [if_neg hk]
    have hk' : ¬ (k : Int) < (t.size : Int) := by omega
    generalize nodesGo 201 201 [f] = L at *
    by_cases hL : 200 < L.length
    ·rw [if_pos hL]
     have hL' : (200 : Int) < (L.length : Int) := by omega
     ((refine Sg.h ?_); try repeat' ((first | (with_reducible first | refine brA ?_ | refine brE fun _ => ?_ | (refine spl ⟨?_, ?_⟩ <;> intro _)) | refine clo hf1 ?_) <;> ((try simp -implicitDefEqProofs [hm']); (try simp -implicitDefEqProofs (disch := first | assumption | (try simp only [lens]); omega -splitDisjunctions) [hm']))))
     refine CL.sub [2] h0 ?_
     ((refine Sg.h ?_); try repeat' ((first | (with_reducible first | refine brA ?_ | refine brE fun _ => ?_ | (refine spl ⟨?_, ?_⟩ <;> intro _))) <;> ((try simp -implicitDefEqProofs); (try simp -implicitDefEqProofs (disch := first | assumption | (try simp only [lens]); omega -splitDisjunctions)))))
     refine CL.sub [2] hb ?_
     ((refine Sg.h ?_); try repeat' ((first | (with_reducible first | refine brA ?_ | refine brE fun _ => ?_ | (refine spl ⟨?_, ?_⟩ <;> intro _)) | refine clo hn ?_ | refine clo hf1 ?_) <;> ((try simp -implicitDefEqProofs [hk', hL']); (try simp -implicitDefEqProofs (disch := first | assumption | (try simp only [lens]); omega -splitDisjunctions) [hk', hL']))))
     refine DRec.sub [0, 1] parse1_none0 ?_
     ((refine Sg.h ?_); try repeat' ((first | (with_reducible first | refine brA ?_ | refine brE fun _ => ?_ | (refine spl ⟨?_, ?_⟩ <;> intro _))) <;> ((try simp -implicitDefEqProofs); (try simp -implicitDefEqProofs (disch := first | assumption | (try simp only [lens]); omega -splitDisjunctions)))))
     all_goals first | rfl | skip
    ·rw [if_neg hL]
     have hL' : ¬ (200 : Int) < (L.length : Int) := by omega
     ((refine Sg.h ?_); try repeat' ((first | (with_reducible first | refine brA ?_ | refine brE fun _ => ?_ | (refine spl ⟨?_, ?_⟩ <;> intro _)) | refine clo hf1 ?_) <;> ((try simp -implicitDefEqProofs [hm']); (try simp -implicitDefEqProofs (disch := first | assumption | (try simp only [lens]); omega -splitDisjunctions) [hm']))))
     refine CL.sub [2] h0 ?_
     ((refine Sg.h ?_); try repeat' ((first | (with_reducible first | refine brA ?_ | refine brE fun _ => ?_ | (refine spl ⟨?_, ?_⟩ <;> intro _))) <;> ((try simp -implicitDefEqProofs); (try simp -implicitDefEqProofs (disch := first | assumption | (try simp only [lens]); omega -splitDisjunctions)))))
     refine CL.sub [2] hb ?_
     ((refine Sg.h ?_); try repeat' ((first | (with_reducible first | refine brA ?_ | refine brE fun _ => ?_ | (refine spl ⟨?_, ?_⟩ <;> intro _)) | refine clo hn ?_ | refine clo hf1 ?_) <;> ((try simp -implicitDefEqProofs [hk', hL']); (try simp -implicitDefEqProofs (disch := first | assumption | (try simp only [lens]); omega -splitDisjunctions) [hk', hL']))))
     refine And.intro ?_ ?_
     all_goals (refine DRec.sub (s2 := [.rows 3 [frm f], .rows 2 [[.int .i64 0, .int .i64 0]]]) [0, 1] (by simpa using parse1_none f) ?_)
     all_goals (((refine Sg.h ?_); try repeat' ((first | (with_reducible first | refine brA ?_ | refine brE fun _ => ?_ | (refine spl ⟨?_, ?_⟩ <;> intro _))) <;> ((try simp -implicitDefEqProofs); (try simp -implicitDefEqProofs (disch := first | assumption | (try simp only [lens]); omega -splitDisjunctions))))))
     all_goals first | rfl | skip
end Go.Proofs.Ytcllmionhlmjfaa
namespace Go.Proofs.Ytcllmionhlmjfaa
open Go Go.Pv
theorem Fm.ind {p : Fm → Prop} (h : ∀ f : Fm, (∀ g ∈ f.kids, p g) → p f) : ∀ f, p f
 | .mk k nm kids => h _ fun g hg => Fm.ind h g
termination_by f => SizeOf.sizeOf f
decreasing_by
 have := List.sizeOf_lt_of_mem hg
 simp only [Fm.kids, Fm.mk.sizeOf_spec] at *
 omega
mutual
def vastB : Fm → Int → Bool
 | .mk _ _ kids, d => decide (25000 < d) || (decide (25000 < (kids.length : Int)) || vastsB kids (d + 1))
def vastsB : List Fm → Int → Bool
 | [], _ => false
 | f :: r, d => vastB f d || vastsB r d
end
theorem vastB_eq (f : Fm) (d : Int) : vastB f d = (decide (25000 < d) || (decide (25000 < (f.kids.length : Int)) || vastsB f.kids (d + 1))) := by
 cases f with | mk k nm l => rw [vastB]; rfl
theorem vastsB_drop (l : List Fm) (i : Nat) (h : i < l.length) (d : Int) : vastsB (l.drop i) d = (vastB l[i] d || vastsB (l.drop (i + 1)) d) := by
 rw [List.drop_eq_getElem_cons h, vastsB]
theorem vast_ref (f : Fm) : ∀ (d : Int), 0 ≤ d → d ≤ 25001 → ∀ s : Store, CallOK Try.prog 12 [.agg (frm f), .int .i64 d] s (.bool (vastB f d)) s := by
 induction f using Fm.ind with
 | h f ih =>
 intro d hd0 hd1 s
 refine CallOK.frame ?_ ?_
 ·refine callOK_of Try.func12 rfl rfl Try.ntmps12 (by simp) ?_
  rw [Try.results12]
  dsimp only [light, regL, dsts, lopsL, lop, nth]
  have hmax : maxLen = 9223372036854775807 := rfl
  have hv := vastB_eq f d
  (have F_ := And.intro @frm_length (And.intro @frm_take (And.intro @frm_drop3 (And.intro @frm_drop2 (And.intro @frm_get0 (And.intro @frm_get1 (@frm_get2))))))); repeat' (first | (with_reducible refine stp ?_) | (with_reducible refine hq _ _ ?_; clear hq q) | (with_reducible refine hk _ _ ?_; clear hk k) | (with_reducible refine EvL.regA (fun k hk => ?_)) | ((with_reducible apply WOps.call); (· exact dOK); (· exact vOK); (· first | assumption | exact EnT.h); (· exact argsOK (x := by first | fail))) | (with_reducible refine WOps.auto F_ (fun q hq => ?_)) | ((with_reducible refine EvL.condA ?_ ?_); all_goals (intro h <;> (try simp only [hna, hnb, hnc, ne_eq, reduceCtorEq, Int.reduceEq, gt_iff_lt, ge_iff_le] at h) <;> (try (exfalso; omega; done)))) | (with_reducible refine EvL.drawnA (fun k hk => ?_)) | (with_reducible refine EvL.mixA (fun k hk => ?_)) | (with_reducible refine EvL.mix2A (fun k hk => ?_)) | (with_reducible refine WMix.bothA F_ ?_ ?_) | (with_reducible refine WOps.takeA ?_) | (with_reducible refine WOps.passA ?_) | ((with_reducible refine WOps.splitA ?_ ?_); all_goals (intro h <;> simp only [h] <;> (try simp only [hna, hnb, hnc, ne_eq, reduceCtorEq, Int.reduceEq, gt_iff_lt, ge_iff_le] at h) <;> (try (exfalso; omega; done)))) | (with_reducible refine WMix.takeA ?_) | (with_reducible refine WMix.passA ?_) | ((with_reducible apply WMix.cons); (· exact dOK); (· decide); (· intro t; (with_reducible apply WG.call); (· exact vOK); (· first | assumption | exact EnT.h); (· exact argsOK (x := by first | fail)))) | (with_reducible refine WMix.consA F_ ?_) | (with_reducible refine WMix.makeA F_ ?_) | ((with_reducible refine And.intro ?_ ?_); (· omega)) | ((with_reducible refine And.intro (fun h => ?_) (fun h => ?_)) <;> (try simp only [Decidable.not_not] at h) <;> (try simp only [h])) | (with_reducible intro hl))
  ·(refine finA ?_; try exact trivial)
   rw [hv, decide_eq_true ‹25000 < d›]; rfl
  ·(refine finA ?_; try exact trivial)
   rw [hv, decide_eq_true h]; simp
  ·rename_i hl
   have hd2 : d + 1 ≤ 25001 := by omega
   have hwd : IntKind.i64.wrap (d + 1) = d + 1 := wrapi (by omega) (by omega)
   refine EvL.loop (X := Nat) (fun i => [(1, .int .i64 d), (2, .ptr 0 0 0), (5, .int .i64 (i : Int))])
    (fun i => [.rows 3 [frm f]]) (fun i => i ≤ f.kids.length ∧ vastB f d = vastsB (f.kids.drop i) (d + 1)) (fun i => f.kids.length - i) 0 ⟨by omega, by rw [hv, decide_eq_false (by omega), decide_eq_false (by omega)]; rfl⟩
    (View.of [0] _ (by simp) (by decide) (by (refine vw ?_; try exact trivial); exact frm_ren _ _) (by (refine vw ?_; try exact trivial))) (fun i hi => ?_)
   by_cases hlt : i < f.kids.length
   ·have hrow : (f.kids.map frm)[i]? = some (frm f.kids[i]) := map_get _ _ _ _ (List.getElem?_eq_getElem hlt)
    have hw := wrap_up i (by omega)
    have hd := vastsB_drop f.kids i hlt (d + 1)
    (have F_ := And.intro @hrow (And.intro @hw (And.intro @hwd (And.intro @frm_length (And.intro @frm_cell (And.intro @frm_take (And.intro @frm_drop3 (And.intro @frm_drop2 (And.intro @frm_get0 (And.intro @frm_get1 (@frm_get2))))))))))); repeat' (first | (with_reducible refine stp ?_) | (with_reducible refine hq _ _ ?_; clear hq q) | (with_reducible refine hk _ _ ?_; clear hk k) | (with_reducible refine EvL.regA (fun k hk => ?_)) | ((with_reducible apply WOps.call); (· exact dOK); (· exact vOK); (· first | assumption | exact EnT.h); (· exact argsOK (x := by first | exact ih _ (List.getElem_mem hlt) _ (by omega) hd2 _))) | (with_reducible refine WOps.auto F_ (fun q hq => ?_)) | ((with_reducible refine EvL.condA ?_ ?_); all_goals (intro h <;> (try simp only [hna, hnb, hnc, ne_eq, reduceCtorEq, Int.reduceEq, gt_iff_lt, ge_iff_le] at h) <;> (try (exfalso; omega; done)))) | (with_reducible refine EvL.drawnA (fun k hk => ?_)) | (with_reducible refine EvL.mixA (fun k hk => ?_)) | (with_reducible refine EvL.mix2A (fun k hk => ?_)) | (with_reducible refine WMix.bothA F_ ?_ ?_) | (with_reducible refine WOps.takeA ?_) | (with_reducible refine WOps.passA ?_) | ((with_reducible refine WOps.splitA ?_ ?_); all_goals (intro h <;> simp only [h] <;> (try simp only [hna, hnb, hnc, ne_eq, reduceCtorEq, Int.reduceEq, gt_iff_lt, ge_iff_le] at h) <;> (try (exfalso; omega; done)))) | (with_reducible refine WMix.takeA ?_) | (with_reducible refine WMix.passA ?_) | ((with_reducible apply WMix.cons); (· exact dOK); (· decide); (· intro t; (with_reducible apply WG.call); (· exact vOK); (· first | assumption | exact EnT.h); (· exact argsOK (x := by first | exact ih _ (List.getElem_mem hlt) _ (by omega) hd2 _)))) | (with_reducible refine WMix.consA F_ ?_) | (with_reducible refine WMix.makeA F_ ?_) | ((with_reducible refine And.intro ?_ ?_); (· omega)) | ((with_reducible refine And.intro (fun h => ?_) (fun h => ?_)) <;> (try simp only [Decidable.not_not] at h) <;> (try simp only [h])) | (with_reducible intro hl))
    ·(refine finA ?_; try exact trivial)
     rw [hi.2, hd, h]; rfl
    ·refine ⟨i + 1, ⟨by omega, ?_⟩, by omega, View.of [0] _ (by simp) (by decide) (by (refine vw ?_; try exact trivial); exact frm_ren _ _) (by (refine vw ?_; try exact trivial))⟩
     rw [hi.2, hd, h]; rfl
   ·(have F_ := And.intro @frm_length (And.intro @frm_take (And.intro @frm_drop3 (And.intro @frm_drop2 (And.intro @frm_get0 (And.intro @frm_get1 (@frm_get2))))))); repeat' (first | (with_reducible refine stp ?_) | (with_reducible refine hq _ _ ?_; clear hq q) | (with_reducible refine hk _ _ ?_; clear hk k) | (with_reducible refine EvL.regA (fun k hk => ?_)) | ((with_reducible apply WOps.call); (· exact dOK); (· exact vOK); (· first | assumption | exact EnT.h); (· exact argsOK (x := by first | fail))) | (with_reducible refine WOps.auto F_ (fun q hq => ?_)) | ((with_reducible refine EvL.condA ?_ ?_); all_goals (intro h <;> (try simp only [hna, hnb, hnc, ne_eq, reduceCtorEq, Int.reduceEq, gt_iff_lt, ge_iff_le] at h) <;> (try (exfalso; omega; done)))) | (with_reducible refine EvL.drawnA (fun k hk => ?_)) | (with_reducible refine EvL.mixA (fun k hk => ?_)) | (with_reducible refine EvL.mix2A (fun k hk => ?_)) | (with_reducible refine WMix.bothA F_ ?_ ?_) | (with_reducible refine WOps.takeA ?_) | (with_reducible refine WOps.passA ?_) | ((with_reducible refine WOps.splitA ?_ ?_); all_goals (intro h <;> simp only [h] <;> (try simp only [hna, hnb, hnc, ne_eq, reduceCtorEq, Int.reduceEq, gt_iff_lt, ge_iff_le] at h) <;> (try (exfalso; omega; done)))) | (with_reducible refine WMix.takeA ?_) | (with_reducible refine WMix.passA ?_) | ((with_reducible apply WMix.cons); (· exact dOK); (· decide); (· intro t; (with_reducible apply WG.call); (· exact vOK); (· first | assumption | exact EnT.h); (· exact argsOK (x := by first | fail)))) | (with_reducible refine WMix.consA F_ ?_) | (with_reducible refine WMix.makeA F_ ?_) | ((with_reducible refine And.intro ?_ ?_); (· omega)) | ((with_reducible refine And.intro (fun h => ?_) (fun h => ?_)) <;> (try simp only [Decidable.not_not] at h) <;> (try simp only [h])) | (with_reducible intro hl))
    (refine finA ?_; try exact trivial)
    rw [hi.2, List.drop_eq_nil_of_le (by omega)]; rfl
 ·intro a ha; simp only [List.mem_cons, List.not_mem_nil, or_false] at ha
  rcases ha with rfl | rfl
  ·exact closed_frm f
  ·exact (flat_int _ _).closed
end Go.Proofs.Ytcllmionhlmjfaa
namespace Go.Proofs.Ytcllmionhlmjfaa
open Go Go.Pv
inductive OkF (N : ByteArray → Prop) : Fm → Prop where
 | mk {k : Int} {nm : ByteArray} {kids : List Fm} (h : (kids.length : Int) = kidsN k) (hN : k = 1 → N nm) (g : ∀ f ∈ kids, OkF N f) : OkF N (.mk k nm kids)
mutual
def pre : Fm → List Fm
 | .mk k nm l => .mk k nm l :: pres l
def pres : List Fm → List Fm
 | [] => []
 | f :: r => pre f ++ pres r
end
theorem pre_eq (f : Fm) : pre f = f :: pres f.kids := by cases f with | mk k nm l => rw [pre]; rfl
theorem pres_nil : pres [] = [] := by rw [pres]
theorem pres_cons (f : Fm) (r : List Fm) : pres (f :: r) = pre f ++ pres r := by rw [pres]
theorem pres_append (a b : List Fm) : pres (a ++ b) = pres a ++ pres b := by
 induction a with
 | nil => simp [pres_nil]
 | cons f r ih => simp [pres_cons, ih]
theorem pres_head (x : Fm) (r : List Fm) : pres (x :: r) = x :: pres (x.kids ++ r) := by rw [pres_cons, pre_eq, pres_append]; rfl
theorem nodesGo_succ (M n : Nat) (x : Fm) (r : List Fm) : nodesGo M (n + 1) (x :: r) = x :: nodesGo M n (x.kids.take M ++ r) := rfl
theorem nodesGo_nil (M n : Nat) : nodesGo M n [] = [] := by cases n <;> rfl
theorem nodesGo_short (M : Nat) : ∀ (n : Nat) (st : List Fm), (nodesGo M n st).length < n → (∀ x ∈ nodesGo M n st, x.kids.length ≤ M) → nodesGo M n st = pres st := by
 intro n
 induction n with
 | zero => intro st h; omega
 | succ n ih =>
  intro st h g
  cases st with
  | nil => rw [nodesGo_nil, pres_nil]
  | cons x r =>
   rw [nodesGo_succ] at h g ⊢
   have hx := g x (by simp)
   rw [List.take_of_length_le hx] at h g ⊢
   rw [pres_head, ih _ (by simpa using h) fun y hy => g y (by simp [hy])]
theorem nodesGo_long (M : Nat) : ∀ (n : Nat) (st : List Fm), (pres st).length ≤ n → (∀ x ∈ pres st, x.kids.length ≤ M) → nodesGo M n st = pres st := by
 intro n
 induction n with
 | zero =>
  intro st h g
  cases st with
  | nil => rw [nodesGo_nil, pres_nil]
  | cons x r => rw [pres_head] at h; simp at h
 | succ n ih =>
  intro st h g
  cases st with
  | nil => rw [nodesGo_nil, pres_nil]
  | cons x r =>
   rw [pres_head] at h g ⊢
   have hx := g x (by simp)
   rw [nodesGo_succ, List.take_of_length_le hx, ih _ (by simpa using h) fun y hy => g y (by simp [hy])]
def okN (x : Fm) : Prop := 0 ≤ kidsN x.kind ∧ (x.kids.length : Int) = kidsN x.kind ∧ ¬ ((x.kind = 1 ∧ isNameB x.name = false) ∨ (x.kind ≠ 1 ∧ x.name ≠ ⟨#[]⟩))
theorem okN_kids {x : Fm} (h : okN x) : x.kids.length ≤ 201 := by
 have := h.2.1
 unfold kidsN at this
 (repeat' split at this) <;> omega
theorem checkNodes_some : ∀ (l : List Fm) (i : Int) (x : Int × Int), checkNodes l i = some x → x.1 ≠ 0 := by
 intro l
 induction l with
 | nil => intro i x h; simp [checkNodes] at h
 | cons p r ih =>
  intro i x h
  rw [checkNodes] at h
  (repeat' split at h) <;> first | (cases h; simp; done) | exact ih _ _ h
theorem checkNodes_iff : ∀ (l : List Fm) (i : Int), i ≤ 200 → (checkNodes l i = none ↔ (∀ x ∈ l, okN x) ∧ i + l.length ≤ 200) := by
 intro l
 induction l with
 | nil => intro i hi; simp [checkNodes]; exact hi
 | cons x r ih =>
  intro i hi
  rw [checkNodes]
  by_cases h1 : i = 200
  ·rw [if_pos h1]; simp; omega
  ·rw [if_neg h1]
   by_cases h2 : kidsN x.kind < 0
   ·rw [if_pos h2]; simp only [reduceCtorEq, false_iff]; intro ⟨h, _⟩; have := (h x (by simp)).1; omega
   ·rw [if_neg h2]
    by_cases h3 : (x.kids.length : Int) ≠ kidsN x.kind
    ·rw [if_pos h3]; simp only [reduceCtorEq, false_iff]; intro ⟨h, _⟩; exact h3 (h x (by simp)).2.1
    ·rw [if_neg h3]
     by_cases h4 : (x.kind = 1 ∧ isNameB x.name = false) ∨ (x.kind ≠ 1 ∧ x.name ≠ ⟨#[]⟩)
     ·rw [if_pos h4]; simp only [reduceCtorEq, false_iff]; intro ⟨h, _⟩; exact (h x (by simp)).2.2 h4
     ·rw [if_neg h4, ih (i + 1) (by omega)]
      have hx : okN x := ⟨by omega, Decidable.not_not.1 h3, h4⟩
      simp only [List.mem_cons, forall_eq_or_imp, hx, true_and, List.length_cons]
      constructor
      ·rintro ⟨a, b⟩; exact ⟨a, by omega⟩
      ·rintro ⟨a, b⟩; exact ⟨a, by omega⟩
theorem formulaCheck_zero {f : Fm} (h : (formulaCheck f).1 = 0) : formulaCheck f = (0, 0) := by
 unfold formulaCheck at h ⊢
 cases hc : checkNodes (nodesGo 201 201 [f]) 0 with
 | none => rfl
 | some x => rw [hc] at h; exact absurd h (checkNodes_some _ _ _ hc)
theorem formulaCheck_iff (f : Fm) : (formulaCheck f).1 = 0 ↔ (∀ x ∈ pre f, okN x) ∧ (pre f).length ≤ 200 := by
 have hp : pres [f] = pre f := by rw [pres_cons, pres_nil, List.append_nil]
 constructor
 ·intro h
  unfold formulaCheck at h
  cases hc : checkNodes (nodesGo 201 201 [f]) 0 with
  | some x => rw [hc] at h; exact absurd h (checkNodes_some _ _ _ hc)
  | none =>
   rw [checkNodes_iff _ 0 (by omega)] at hc
   have hn := nodesGo_short 201 201 [f] (by omega) fun x hx => okN_kids (hc.1 x hx)
   rw [hn, hp] at hc
   exact ⟨hc.1, by omega⟩
 ·rintro ⟨h1, h2⟩
  have hn := nodesGo_long 201 201 [f] (by rw [hp]; omega) (by rw [hp]; exact fun x hx => okN_kids (h1 x hx))
  have hc : checkNodes (nodesGo 201 201 [f]) 0 = none := by
   rw [checkNodes_iff _ 0 (by omega), hn, hp]; exact ⟨h1, by omega⟩
  unfold formulaCheck; rw [hc]; rfl
def of1 (k : Int) (f : Fm) : Fm := .mk k ⟨#[]⟩ [f]
def of2 (k : Int) (f g : Fm) : Fm := .mk k ⟨#[]⟩ [f, g]
theorem pre_of1 (k : Int) (f : Fm) : pre (of1 k f) = of1 k f :: pre f := by rw [pre_eq]; simp [of1, Fm.kids, pres_cons, pres_nil]
theorem pre_of2 (k : Int) (f g : Fm) : pre (of2 k f g) = of2 k f g :: (pre f ++ pre g) := by rw [pre_eq]; simp [of2, Fm.kids, pres_cons, pres_nil]
theorem ok_of1 {k : Int} {f : Fm} (h : k = 4 ∨ k = 8 ∨ k = 9) : okN (of1 k f) := by
 rcases h with rfl | rfl | rfl <;> simp [okN, of1, Fm.kind, Fm.kids, Fm.name, kidsN]
theorem ok_of2 {k : Int} {f g : Fm} (h : k = 5 ∨ k = 6 ∨ k = 7) : okN (of2 k f g) := by
 rcases h with rfl | rfl | rfl <;> simp [okN, of2, Fm.kind, Fm.kids, Fm.name, kidsN]
theorem okF_of_pre : ∀ f : Fm, (∀ x ∈ pre f, okN x) → OkF (fun n => isNameB n = true) f := by
 intro f
 induction f using Fm.ind with
 | h f ih =>
  intro h
  have h0 := h f (by rw [pre_eq]; simp)
  cases f with
  | mk k nm l =>
   refine .mk h0.2.1 (fun hk => ?_) fun g hg => ih g hg fun x hx => h x ?_
   ·have := h0.2.2
    simp only [Fm.kind, Fm.name, hk, true_and, not_or] at this
    simpa using this.1
   ·rw [pre_eq]
    refine List.mem_cons_of_mem _ ?_
    have : ∀ l : List Fm, g ∈ l → x ∈ pres l := by
     intro l
     induction l with
     | nil => intro h; cases h
     | cons a r ihr =>
      intro h
      rw [pres_cons, List.mem_append]
      cases h with
      | head => exact .inl hx
      | tail _ h => exact .inr (ihr h)
    exact this l hg
end Go.Proofs.Ytcllmionhlmjfaa
namespace Go.Proofs.Ytcllmionhlmjfaa
open Go Go.Pv
theorem OkF.nine {N : ByteArray → Prop} {f : Fm} (h : OkF N f) : (∃ nm, N nm ∧ f = .mk 1 nm []) ∨ (∃ nm, f = .mk 2 nm []) ∨ (∃ nm, f = .mk 3 nm []) ∨ (∃ nm a, OkF N a ∧ f = .mk 4 nm [a]) ∨ (∃ nm a b, OkF N a ∧ OkF N b ∧ f = .mk 5 nm [a, b]) ∨
  (∃ nm a b, OkF N a ∧ OkF N b ∧ f = .mk 6 nm [a, b]) ∨ (∃ nm a b, OkF N a ∧ OkF N b ∧ f = .mk 7 nm [a, b]) ∨ (∃ nm a, OkF N a ∧ f = .mk 8 nm [a]) ∨ (∃ nm a, OkF N a ∧ f = .mk 9 nm [a]) := by
 cases h with
 | mk h hN g =>
  rename_i k nm l
  unfold kidsN at h
  have hk : k = 1 ∨ k = 2 ∨ k = 3 ∨ k = 4 ∨ k = 5 ∨ k = 6 ∨ k = 7 ∨ k = 8 ∨ k = 9 := by
   (repeat' split at h) <;> omega
  rcases hk with rfl | rfl | rfl | rfl | rfl | rfl | rfl | rfl | rfl <;> simp at h
  ·subst h; exact .inl ⟨nm, hN rfl, rfl⟩
  ·subst h; exact .inr (.inl ⟨nm, rfl⟩)
  ·subst h; exact .inr (.inr (.inl ⟨nm, rfl⟩))
  ·match l, h with | [a], _ => exact .inr (.inr (.inr (.inl ⟨nm, a, g a (by simp), rfl⟩)))
  ·match l, h with | [a, b], _ => exact .inr (.inr (.inr (.inr (.inl ⟨nm, a, b, g a (by simp), g b (by simp), rfl⟩))))
  ·match l, h with | [a, b], _ => exact .inr (.inr (.inr (.inr (.inr (.inl ⟨nm, a, b, g a (by simp), g b (by simp), rfl⟩)))))
  ·match l, h with | [a, b], _ => exact .inr (.inr (.inr (.inr (.inr (.inr (.inl ⟨nm, a, b, g a (by simp), g b (by simp), rfl⟩))))))
  ·match l, h with | [a], _ => exact .inr (.inr (.inr (.inr (.inr (.inr (.inr (.inl ⟨nm, a, g a (by simp), rfl⟩)))))))
  ·match l, h with | [a], _ => exact .inr (.inr (.inr (.inr (.inr (.inr (.inr (.inr ⟨nm, a, g a (by simp), rfl⟩)))))))
theorem OkF.kid {N : ByteArray → Prop} {f g : Fm} (h : OkF N f) (hg : g ∈ f.kids) : OkF N g := by
 cases h with | mk a b c => exact c g hg
def eqL (r : Fm → Fm → Bool) : List Fm → List Fm → Bool
 | [], [] => true
 | a :: xs, b :: bs => r a b && eqL r xs bs
 | _, _ => false
theorem eqL_len {r : Fm → Fm → Bool} : ∀ {xs bs : List Fm}, xs.length ≠ bs.length → eqL r xs bs = false
 | [], [], h => absurd rfl h
 | [], _ :: _, _ => rfl
 | _ :: _, [], _ => rfl
 | a :: xs, b :: bs, h => by rw [eqL, eqL_len (xs := xs) (bs := bs) (by simpa using h), Bool.and_false]
theorem eqL_drop {r : Fm → Fm → Bool} {xs bs : List Fm} {i : Nat} (h : i < xs.length) (h' : i < bs.length) : eqL r (xs.drop i) (bs.drop i) = (r xs[i] bs[i] && eqL r (xs.drop (i + 1)) (bs.drop (i + 1))) := by
 rw [List.drop_eq_getElem_cons h, List.drop_eq_getElem_cons h', eqL]
noncomputable def sameB (f g : Fm) : Bool := @decide (f = g) (Classical.propDecidable _)
theorem sameB_iff {f g : Fm} : sameB f g = true ↔ f = g := by simp [sameB]
theorem eqL_same : ∀ xs bs : List Fm, eqL sameB xs bs = true ↔ xs = bs
 | [], [] => by simp [eqL]
 | [], _ :: _ => by simp [eqL]
 | _ :: _, [] => by simp [eqL]
 | a :: xs, b :: bs => by simp [eqL, sameB_iff, eqL_same xs bs]
theorem sameB_eq (f g : Fm) : sameB f g = (decide (f.kind = g.kind) && decide (f.name = g.name) && eqL sameB f.kids g.kids) := by
 rw [Bool.eq_iff_iff, sameB_iff, Bool.and_eq_true, Bool.and_eq_true, decide_eq_true_iff, decide_eq_true_iff, eqL_same]
 cases f; cases g
 simp [and_assoc]
theorem pres_mem {x g : Fm} (hx : x ∈ pre g) : ∀ l : List Fm, g ∈ l → x ∈ pres l
 | a :: r, h => by
  rw [pres_cons, List.mem_append]
  cases h with
  | head => exact .inl hx
  | tail _ h => exact .inr (pres_mem hx r h)
theorem mem_pres {x : Fm} : ∀ l : List Fm, x ∈ pres l → ∃ g ∈ l, x ∈ pre g
 | [], h => by rw [pres_nil] at h; cases h
 | a :: r, h => by
  rw [pres_cons, List.mem_append] at h
  rcases h with h | h
  ·exact ⟨a, by simp, h⟩
  ·obtain ⟨g, h1, h2⟩ := mem_pres r h; exact ⟨g, by simp [h1], h2⟩
theorem pres_len {g : Fm} : ∀ l : List Fm, g ∈ l → (pre g).length ≤ (pres l).length
 | a :: r, h => by
  rw [pres_cons, List.length_append]
  cases h with
  | head => omega
  | tail _ h => have := pres_len r h; omega
theorem pre_sub {N : ByteArray → Prop} (f : Fm) (hf : OkF N f) : ∀ x ∈ pre f, OkF N x ∧ (pre x).length ≤ (pre f).length ∧ ∀ y ∈ pre x, y ∈ pre f := by
 induction f using Fm.ind with
 | h f ih =>
  intro x hx
  rw [pre_eq] at hx
  cases hx with
  | head => exact ⟨hf, Nat.le_refl _, fun y h => h⟩
  | tail _ hx =>
   obtain ⟨g, h1, h2⟩ := mem_pres _ hx
   obtain ⟨h3, h4, h5⟩ := ih g h1 (hf.kid h1) x h2
   refine ⟨h3, ?_, fun y hy => ?_⟩
   ·have := pres_len _ h1
    rw [pre_eq f]; simp; omega
   ·rw [pre_eq f]; exact List.mem_cons_of_mem _ (pres_mem (h5 y hy) _ h1)
def Td (f : Fm) : Prop := ∀ x ∈ pre f, okN x
theorem Td.kid {f g : Fm} (h : Td f) (hg : g ∈ f.kids) : Td g := fun x hx => h x (by rw [pre_eq]; exact List.mem_cons_of_mem _ (pres_mem hx _ hg))
theorem Td.ok {f : Fm} (h : Td f) : OkF (fun n => isNameB n = true) f := okF_of_pre f h
theorem Td.nine {f : Fm} (h : Td f) : (∃ nm, isNameB nm = true ∧ f = .mk 1 nm []) ∨ (f = .mk 2 ⟨#[]⟩ []) ∨ (f = .mk 3 ⟨#[]⟩ []) ∨ (∃ a, Td a ∧ f = .mk 4 ⟨#[]⟩ [a]) ∨ (∃ a b, Td a ∧ Td b ∧ f = .mk 5 ⟨#[]⟩ [a, b]) ∨
  (∃ a b, Td a ∧ Td b ∧ f = .mk 6 ⟨#[]⟩ [a, b]) ∨ (∃ a b, Td a ∧ Td b ∧ f = .mk 7 ⟨#[]⟩ [a, b]) ∨ (∃ a, Td a ∧ f = .mk 8 ⟨#[]⟩ [a]) ∨ (∃ a, Td a ∧ f = .mk 9 ⟨#[]⟩ [a]) := by
 have hn := (h f (by rw [pre_eq]; exact List.mem_cons_self)).2.2
 rcases h.ok.nine with ⟨nm, hN, rfl⟩ | ⟨nm, rfl⟩ | ⟨nm, rfl⟩ | ⟨nm, a, ha, rfl⟩ | ⟨nm, a, b, ha, hb, rfl⟩ | ⟨nm, a, b, ha, hb, rfl⟩ | ⟨nm, a, b, ha, hb, rfl⟩ | ⟨nm, a, ha, rfl⟩ | ⟨nm, a, ha, rfl⟩
 all_goals simp only [Fm.kind, Fm.name] at hn
 ·exact .inl ⟨nm, hN, rfl⟩
 all_goals obtain rfl : nm = ⟨#[]⟩ := by (refine Classical.byContradiction fun g => hn (.inr ⟨by decide, g⟩))
 ·exact .inr (.inl rfl)
 ·exact .inr (.inr (.inl rfl))
 ·exact .inr (.inr (.inr (.inl ⟨a, h.kid (by simp [Fm.kids]), rfl⟩)))
 ·exact .inr (.inr (.inr (.inr (.inl ⟨a, b, h.kid (by simp [Fm.kids]), h.kid (by simp [Fm.kids]), rfl⟩))))
 ·exact .inr (.inr (.inr (.inr (.inr (.inl ⟨a, b, h.kid (by simp [Fm.kids]), h.kid (by simp [Fm.kids]), rfl⟩)))))
 ·exact .inr (.inr (.inr (.inr (.inr (.inr (.inl ⟨a, b, h.kid (by simp [Fm.kids]), h.kid (by simp [Fm.kids]), rfl⟩))))))
 ·exact .inr (.inr (.inr (.inr (.inr (.inr (.inr (.inl ⟨a, h.kid (by simp [Fm.kids]), rfl⟩)))))))
 ·exact .inr (.inr (.inr (.inr (.inr (.inr (.inr (.inr ⟨a, h.kid (by simp [Fm.kids]), rfl⟩)))))))
theorem Td.pre {f x : Fm} (h : Td f) (hx : x ∈ pre f) : Td x := fun y hy => h y ((pre_sub f h.ok x hx).2.2 y hy)
section
variable {n : Nat} {t : Nat → Nat → Bool} {hold : Nat → ByteArray → Bool} {w : Nat} {nm : ByteArray} {l : List Fm} {a b : Fm}
end
theorem td_check {f : Fm} (h : (formulaCheck f).1 = 0) : Td f := ((formulaCheck_iff f).1 h).1
theorem pres_ge : ∀ l : List Fm, l.length ≤ (pres l).length
 | [] => by simp
 | f :: r => by rw [pres_cons, pre_eq]; have := pres_ge r; simp; omega
theorem nodesGo_take (M : Nat) : ∀ (n : Nat) (st : List Fm), n ≤ M + 1 → nodesGo M n st = (pres st).take n := by
 intro n
 induction n with
 | zero => intro st h; rw [List.take_zero]; cases st <;> rfl
 | succ n ih =>
  intro st h
  cases st with
  | nil => rw [nodesGo_nil, pres_nil]; rfl
  | cons x r =>
   rw [nodesGo_succ, ih _ (by omega), pres_head, List.take_succ_cons]
   congr 1
   by_cases hx : x.kids.length ≤ M
   ·rw [List.take_of_length_le hx]
   ·have e : pres (x.kids ++ r) = pres (x.kids.take M) ++ (pres (x.kids.drop M) ++ pres r) := by
     rw [← List.append_assoc, ← pres_append, List.take_append_drop, pres_append]
    have hl : n ≤ (pres (x.kids.take M)).length := by
     have := pres_ge (x.kids.take M); rw [List.length_take] at this; omega
    rw [e, pres_append, List.take_append_of_le_length hl, List.take_append_of_le_length hl]
end Go.Proofs.Ytcllmionhlmjfaa
