import Derived.Test.YtcllmionhlmjfaaFFpC
import Derived.Test.YtcllmionhlmjfaaFFormB
import Derived.Test.YtcllmionhlmjfaaFFormA
set_option linter.unusedVariables false
set_option linter.unusedSimpArgs false
set_option maxRecDepth 100000
set_option maxHeartbeats 4000000
namespace Go.Proofs.Ytcllmionhlmjfaa
open Go Go.Pv
def PPf (t : ByteArray) : Nat → (Nat → Res) × (Nat → Res)
 | 0 => (fun i => .error i, fun i => .error i)
 | n + 1 => (notP t (PPf t n).1 (PPf t n).2, thenP t (opP t ⟨#[124]⟩ 6 (opP t ⟨#[38]⟩ 5 (notP t (PPf t n).1 (PPf t n).2))) (PPf t n).2)
theorem reader_told (t : ByteArray) (hs : t.size ≤ 1000000) : ∀ n i, i ≤ t.size → t.size - i < n → Told 128 t i ((PPf t n).1 i) ∧ Told 56 t i ((PPf t n).2 i) := by
 intro n
 induction n with
 | zero => intro i _ h; omega
 | succ n ih =>
  intro i hi hn
  have hN : ∀ j, i ≤ j → j ≤ t.size → Told 128 t j (notP t (PPf t n).1 (PPf t n).2 j) := fun j h1 h2 =>
   not_reader t j hs h2 _ _ (fun k h3 h4 => (ih k h4 (by omega)).1) (fun k h3 h4 => (ih k h4 (by omega)).2)
  have le_of : ∀ {F j R}, Told F t j R → ∀ f k, R = .ok (f, k) → j ≤ k ∧ k ≤ t.size := fun h f k e => by rw [e] at h; exact h.2
  refine ⟨hN i (Nat.le_refl _) hi, ?_⟩
  refine then_reader t i hs hi _ _ ?_ (fun k h3 h4 => (ih k h4 (by omega)).2)
  exact or_reader t i hs hi _ fun j h1 h2 => and_reader t j hs h2 _ fun k h3 h4 => hN k (by omega) h4
def parseR (t : ByteArray) : Res := (PPf t (t.size + 1)).2 0
theorem parse_told (t : ByteArray) (hs : t.size ≤ 1000000) : Told 56 t 0 (parseR t) := (reader_told t hs _ 0 (by omega) (by omega)).2
def parseO (t : ByteArray) : Fm × Int × Int :=
 if 20000 < t.size then (.mk 0 ⟨#[]⟩ [], 2, 0) else match parseR t with
 | .error p => (.mk 0 ⟨#[]⟩ [], 1, (p : Int))
 | .ok (f, j) => if bl t j < t.size then (.mk 0 ⟨#[]⟩ [], 1, (bl t j : Int)) else if 200 < (nodesGo 201 201 [f]).length then (.mk 0 ⟨#[]⟩ [], 2, 0) else (f, 0, 0)
def x55 : XC := .seq (.reg [⟨some 5,.call ⟨.builtin .recover,#[],#[]⟩,none⟩]) (.block 0 (.seq (.reg [⟨some 7,.binOp .eql 20 (.tmp 5) (.const .nilIface) 20,none⟩]) (.cond (.tmp 7) (.reg [⟨some 2,.assign (.tmp 5),none⟩]) (.seq (.reg [⟨some 8,.typeAssert (.tmp 5) 20 82 true,none⟩,⟨some 9,.extract (.tmp 8) 1,none⟩,⟨some 10,.extract (.tmp 8) 0,none⟩]) (.cond (.tmp 9) (.seq (.reg [⟨some 3,.alloc 82,none⟩,⟨none,.store 82 (.tmp 3) (.tmp 10),none⟩]) (.drawn 7 [⟨some 11,.build 24 #[],none⟩,⟨some 12,.fieldAddr 82 (.tmp 3) 0,none⟩,⟨some 13,.load 29 (.tmp 12),none⟩,⟨none,.store 24 (.tmp 0) (.tmp 11),none⟩,⟨none,.store 29 (.tmp 1) (.tmp 13),none⟩])) (.seq (.reg [⟨some 4,.assign (.tmp 5),none⟩]) (.reg [⟨some 6,.move (.tmp 4),none⟩,⟨none,.panic (.tmp 6),none⟩])))))))
@[simp] theorem x55_s {C e s K} : type_of% (@X_at C e s K _ _ x55.eq_1) := X_at x55.eq_1
def an55 : Ann := ⟨[(7, .tree (.op 0 (.op 1 (.op 2 (.op 3 (.ck 2 (.op 4 .fin)))))))], [], []⟩
@[simp] theorem an55_a : an55.clsOf 7 = .tree (.op 0 (.op 1 (.op 2 (.op 3 (.ck 2 (.op 4 .fin)))))) ∧ an55.frzOf 7 = [] := ⟨rfl, rfl⟩
theorem fr_parse : FR Try.prog 55 (cxA an55) 5 (sndX x55) [] Try.f55 := frA Try.func55 mixed (by decide +kernel) (by kernel_rfl) (by kernel_rfl)
@[simp] theorem xn_nil : xnilI Try.prog 20 .niliface = some (.bool true) := by kernel_rfl
@[simp] theorem xn_some (t : TypeId) (v : PV) : xnilI Try.prog 20 (.iface t v) = some (.bool false) := by kernel_rfl
theorem parse1_none (f : Fm) : CallRec Try.prog 55 none [.ptr 0 0 0, .ptr 1 0 0] [.rows 3 [frm f], .rows 2 [[.int .i64 0, .int .i64 0]]] [.rows 3 [frm f], .rows 2 [[.int .i64 0, .int .i64 0]]] := by
 refine FR.og (v := .tuple []) fr_parse (r := none) (rv := .niliface) rfl ?_
 simp only [x55, sndX]
 have hr2 : List.range 2 = [0, 1] := rfl
 ((refine Sg.h ?_); try repeat' ((first | (with_reducible first | refine brA ?_ | refine brE fun _ => ?_ | (refine spl ⟨?_, ?_⟩ <;> intro _))) <;> ((try simp -implicitDefEqProofs [hr2]); (try simp -implicitDefEqProofs (disch := first | assumption | (try simp only [lens]); omega -splitDisjunctions) [hr2]))))
theorem parse1_none0 : CallRec Try.prog 55 none [.ptr 0 0 0, .ptr 1 0 0] [.rows 3 [[.int .i64 0, .str ⟨#[]⟩, .nilsl]], .rows 2 [[.int .i64 2, .int .i64 0]]] [.rows 3 [[.int .i64 0, .str ⟨#[]⟩, .nilsl]], .rows 2 [[.int .i64 2, .int .i64 0]]] := by
 refine FR.og (v := .tuple []) fr_parse (r := none) (rv := .niliface) rfl ?_
 simp only [x55, sndX]
 have hr2 : List.range 2 = [0, 1] := rfl
 ((refine Sg.h ?_); try repeat' ((first | (with_reducible first | refine brA ?_ | refine brE fun _ => ?_ | (refine spl ⟨?_, ?_⟩ <;> intro _))) <;> ((try simp -implicitDefEqProofs [hr2]); (try simp -implicitDefEqProofs (disch := first | assumption | (try simp only [lens]); omega -splitDisjunctions) [hr2]))))
theorem parse1_stop (f : Fm) (p : Nat) : CallRec Try.prog 55 (some (stopV p)) [.ptr 0 0 0, .ptr 1 0 0] [.rows 3 [frm f], .rows 2 [[.int .i64 0, .int .i64 0]]] [.rows 3 [[.int .i64 0, .str ⟨#[]⟩, .nilsl]], .rows 2 [[.int .i64 1, .int .i64 (p : Int)]]] := by
 refine FR.og (v := .tuple []) fr_parse (r := some (stopV p)) (pan_stop p) ?_
 simp only [x55, sndX]
 have hr2 : List.range 2 = [0, 1] := rfl
 ((refine Sg.h ?_); try repeat' ((first | (with_reducible first | refine brA ?_ | refine brE fun _ => ?_ | (refine spl ⟨?_, ?_⟩ <;> intro _))) <;> ((try simp -implicitDefEqProofs [hr2]); (try simp -implicitDefEqProofs (disch := first | assumption | (try simp only [lens]); omega -splitDisjunctions) [hr2]))))
theorem parse1_stop0 (p : Nat) : CallRec Try.prog 55 (some (stopV p)) [.ptr 0 0 0, .ptr 1 0 0] [.rows 3 [[.int .i64 0, .str ⟨#[]⟩, .nilsl]], .rows 2 [[.int .i64 0, .int .i64 0]]] [.rows 3 [[.int .i64 0, .str ⟨#[]⟩, .nilsl]], .rows 2 [[.int .i64 1, .int .i64 (p : Int)]]] := by
 refine FR.og (v := .tuple []) fr_parse (r := some (stopV p)) (pan_stop p) ?_
 simp only [x55, sndX]
 have hr2 : List.range 2 = [0, 1] := rfl
 ((refine Sg.h ?_); try repeat' ((first | (with_reducible first | refine brA ?_ | refine brE fun _ => ?_ | (refine spl ⟨?_, ?_⟩ <;> intro _))) <;> ((try simp -implicitDefEqProofs [hr2]); (try simp -implicitDefEqProofs (disch := first | assumption | (try simp only [lens]); omega -splitDisjunctions) [hr2]))))
def x19 : XC := .seq (.reg [⟨some 2,.alloc 24,none⟩,⟨some 3,.alloc 29,none⟩]) (.seq (.seq (.reg [⟨some 5,.move (.tmp 0),none⟩,⟨some 6,.call ⟨.builtin .len,#[.tmp 5],#[9]⟩,none⟩,⟨some 7,.binOp .gtr 3 (.tmp 6) (.const (.int .i64 20000)) 3,none⟩]) (.cond (.tmp 7) (.seq (.drawn 2 [⟨some 8,.load 24 (.tmp 2),none⟩,⟨some 9,.call ⟨.value (.func 50),#[.const (.int .i64 2),.const (.int .i64 0)],#[3,3]⟩,none⟩,⟨none,.store 24 (.tmp 2) (.tmp 8),none⟩,⟨none,.store 29 (.tmp 3) (.tmp 9),none⟩]) .ret) .skip)) (.seq (.reg [⟨some 10,.makeFunc (.func 55) #[] #[.tmp 2,.tmp 3],none⟩,⟨none,.defer ⟨.value (.tmp 10),#[],#[]⟩,none⟩]) (.seq (.reg [⟨some 11,.move (.tmp 0),none⟩,⟨some 12,.build 85 #[(0,.tmp 11)],none⟩,⟨some 13,.box 85 (.tmp 12),none⟩,⟨some 4,.assign (.tmp 13),none⟩]) (.seq (.reg [⟨some 14,.move (.tmp 4),none⟩,⟨some 15,.call ⟨.value (.func 56),#[.tmp 14],#[83]⟩,none⟩,⟨none,.store 24 (.tmp 2) (.tmp 15),none⟩]) (.seq (.seq (.reg [⟨some 16,.move (.tmp 4),none⟩,⟨some 17,.call ⟨.value (.func 57),#[.tmp 16],#[83]⟩,none⟩]) (.seq (.reg [⟨some 18,.move (.tmp 4),none⟩,⟨some 19,.nilCheck (.tmp 18),none⟩,⟨some 20,.fieldAddr 85 (.tmp 19) 1,none⟩,⟨some 21,.load 3 (.tmp 20),none⟩,⟨some 22,.move (.tmp 0),none⟩,⟨some 23,.call ⟨.builtin .len,#[.tmp 22],#[9]⟩,none⟩,⟨some 24,.binOp .lss 3 (.tmp 21) (.tmp 23) 3,none⟩]) (.cond (.tmp 24) (.reg [⟨some 25,.move (.tmp 4),none⟩,⟨some 26,.call ⟨.value (.func 58),#[.tmp 25],#[83]⟩,none⟩]) .skip))) (.seq (.seq (.reg [⟨some 27,.load 24 (.tmp 2),none⟩,⟨some 28,.call ⟨.value (.func 48),#[.tmp 27,.const (.int .i64 201)],#[24,3]⟩,none⟩,⟨some 29,.call ⟨.builtin .len,#[.tmp 28],#[22]⟩,none⟩,⟨some 30,.binOp .gtr 3 (.tmp 29) (.const (.int .i64 200)) 3,none⟩]) (.cond (.tmp 30) (.seq (.reg [⟨some 31,.build 24 #[],none⟩,⟨some 32,.call ⟨.value (.func 50),#[.const (.int .i64 2),.const (.int .i64 0)],#[3,3]⟩,none⟩,⟨none,.store 24 (.tmp 2) (.tmp 31),none⟩,⟨none,.store 29 (.tmp 3) (.tmp 32),none⟩]) .ret) .skip)) (.seq (.drawn 11 [⟨some 33,.load 24 (.tmp 2),none⟩,⟨some 34,.load 29 (.tmp 3),none⟩,⟨none,.store 24 (.tmp 2) (.tmp 33),none⟩,⟨none,.store 29 (.tmp 3) (.tmp 34),none⟩]) .ret)))))))
@[simp] theorem x19_s {C e s K} : type_of% (@X_at C e s K _ _ x19.eq_1) := X_at x19.eq_1
def an19 : Ann := ⟨[(2, .mix 2), (11, .mix3 2 1)], [], []⟩
@[simp] theorem an19_a : an19.clsOf 2 = .mix 2 ∧ an19.clsOf 11 = .mix3 2 1 ∧ an19.frzOf 2 = [] ∧ an19.frzOf 11 = [] := ⟨rfl, rfl, rfl, rfl⟩
theorem fd_parse : FD Try.prog 19 (cxA an19) (preX 2 x19) 10 55 [.tmp 2, .tmp 3] (dropX 3 x19) [.cell 2 24, .cell 3 29] Try.f19 := fdA Try.func19 mixed (by decide +kernel) (by kernel_rfl) (by kernel_rfl)
theorem Parse_formula (t : ByteArray) : CallOK Try.prog 19 [.str t] [] (.tuple [.agg (frm (parseO t).1), .agg [.int .i64 (parseO t).2.1, .int .i64 (parseO t).2.2]]) [] := by
 have hf1 := fault_formula 2 0 []
 refine FD.os fd_parse ?_
 simp only [x19, preX, dropX]
 unfold parseO
 by_cases hm : 20000 < t.size
 ·rw [if_pos hm]
  have hm' : (20000 : Int) < (t.size : Int) := by omega
  ((refine Sg.h ?_); try repeat' ((first | (with_reducible first | refine brA ?_ | refine brE fun _ => ?_ | (refine spl ⟨?_, ?_⟩ <;> intro _)) | refine clo hf1 ?_) <;> ((try simp -implicitDefEqProofs [hm']); (try simp -implicitDefEqProofs (disch := first | assumption | (try simp only [lens]); omega -splitDisjunctions) [hm']))))
  rfl
 ·rw [if_neg hm]
  have hm' : ¬ (20000 : Int) < (t.size : Int) := by omega
  have hs : t.size ≤ 1000000 := by omega
  have h0 := parse_told t hs
  cases hp0 : parseR t with
  | error q =>
   rw [hp0] at h0
   simp only [Told] at h0
   ((refine Sg.h ?_); try repeat' ((first | (with_reducible first | refine brA ?_ | refine brE fun _ => ?_ | (refine spl ⟨?_, ?_⟩ <;> intro _)) | refine clo hf1 ?_) <;> ((try simp -implicitDefEqProofs [hm']); (try simp -implicitDefEqProofs (disch := first | assumption | (try simp only [lens]); omega -splitDisjunctions) [hm']))))
   refine CL.psub [2] h0 ?_
   ((refine Sg.h ?_); try repeat' ((first | (with_reducible first | refine brA ?_ | refine brE fun _ => ?_ | (refine spl ⟨?_, ?_⟩ <;> intro _))) <;> ((try simp -implicitDefEqProofs); (try simp -implicitDefEqProofs (disch := first | assumption | (try simp only [lens]); omega -splitDisjunctions)))))
   refine DRec.sub [0, 1] (parse1_stop0 q) ?_
   ((refine Sg.h ?_); try repeat' ((first | (with_reducible first | refine brA ?_ | refine brE fun _ => ?_ | (refine spl ⟨?_, ?_⟩ <;> intro _))) <;> ((try simp -implicitDefEqProofs); (try simp -implicitDefEqProofs (disch := first | assumption | (try simp only [lens]); omega -splitDisjunctions)))))
   all_goals first | rfl | skip
  | ok r =>
   obtain ⟨f, j⟩ := r
   rw [hp0] at h0
   obtain ⟨h0, h1, h2⟩ := h0
   have hb := blanks_reader t j hs h2
   have hbl := bl_le h2
   have hf2 := fail_reader t (bl t j)
   have hn := nodes_formula f 201 (by decide) []
   simp only
   generalize bl t j = k at *
   by_cases hk : k < t.size
   ·rw [if_pos hk]
    have hk' : (k : Int) < (t.size : Int) := by omega
    ((refine Sg.h ?_); try repeat' ((first | (with_reducible first | refine brA ?_ | refine brE fun _ => ?_ | (refine spl ⟨?_, ?_⟩ <;> intro _)) | refine clo hf1 ?_) <;> ((try simp -implicitDefEqProofs [hm']); (try simp -implicitDefEqProofs (disch := first | assumption | (try simp only [lens]); omega -splitDisjunctions) [hm']))))
    refine CL.sub [2] h0 ?_
    ((refine Sg.h ?_); try repeat' ((first | (with_reducible first | refine brA ?_ | refine brE fun _ => ?_ | (refine spl ⟨?_, ?_⟩ <;> intro _))) <;> ((try simp -implicitDefEqProofs); (try simp -implicitDefEqProofs (disch := first | assumption | (try simp only [lens]); omega -splitDisjunctions)))))
    refine CL.sub [2] hb ?_
    ((refine Sg.h ?_); try repeat' ((first | (with_reducible first | refine brA ?_ | refine brE fun _ => ?_ | (refine spl ⟨?_, ?_⟩ <;> intro _))) <;> ((try simp -implicitDefEqProofs [hk']); (try simp -implicitDefEqProofs (disch := first | assumption | (try simp only [lens]); omega -splitDisjunctions) [hk']))))
    refine CL.psub [2] hf2 ?_
    ((refine Sg.h ?_); try repeat' ((first | (with_reducible first | refine brA ?_ | refine brE fun _ => ?_ | (refine spl ⟨?_, ?_⟩ <;> intro _))) <;> ((try simp -implicitDefEqProofs); (try simp -implicitDefEqProofs (disch := first | assumption | (try simp only [lens]); omega -splitDisjunctions)))))
    refine DRec.sub (s2 := [.rows 3 [[.int .i64 0, .str ⟨#[]⟩, .nilsl]], .rows 2 [[.int .i64 1, .int .i64 (k : Int)]]]) [0, 1] (by simpa using parse1_stop f k) ?_
    ((refine Sg.h ?_); try repeat' ((first | (with_reducible first | refine brA ?_ | refine brE fun _ => ?_ | (refine spl ⟨?_, ?_⟩ <;> intro _))) <;> ((try simp -implicitDefEqProofs); (try simp -implicitDefEqProofs (disch := first | assumption | (try simp only [lens]); omega -splitDisjunctions)))))
    all_goals first | rfl | skip
   ·rw [if_neg hk]
    have hk' : ¬ (k : Int) < (t.size : Int) := by omega
    generalize nodesGo 201 201 [f] = L at *
    by_cases hL : 200 < L.length
    ·rw [if_pos hL]
     have hL' : (200 : Int) < (L.length : Int) := by omega
     ((refine Sg.h ?_); try repeat' ((first | (with_reducible first | refine brA ?_ | refine brE fun _ => ?_ | (refine spl ⟨?_, ?_⟩ <;> intro _)) | refine clo hf1 ?_) <;> ((try simp -implicitDefEqProofs [hm']); (try simp -implicitDefEqProofs (disch := first | assumption | (try simp only [lens]); omega -splitDisjunctions) [hm']))))
     refine CL.sub [2] h0 ?_
     ((refine Sg.h ?_); try repeat' ((first | (with_reducible first | refine brA ?_ | refine brE fun _ => ?_ | (refine spl ⟨?_, ?_⟩ <;> intro _))) <;> ((try simp -implicitDefEqProofs); (try simp -implicitDefEqProofs (disch := first | assumption | (try simp only [lens]); omega -splitDisjunctions)))))
     refine CL.sub [2] hb ?_
     ((refine Sg.h ?_); try repeat' ((first | (with_reducible first | refine brA ?_ | refine brE fun _ => ?_ | (refine spl ⟨?_, ?_⟩ <;> intro _)) | refine clo hn ?_ | refine clo hf1 ?_) <;> ((try simp -implicitDefEqProofs [hk', hL']); (try simp -implicitDefEqProofs (disch := first | assumption | (try simp only [lens]); omega -splitDisjunctions) [hk', hL']))))
     refine DRec.sub [0, 1] parse1_none0 ?_
     ((refine Sg.h ?_); try repeat' ((first | (with_reducible first | refine brA ?_ | refine brE fun _ => ?_ | (refine spl ⟨?_, ?_⟩ <;> intro _))) <;> ((try simp -implicitDefEqProofs); (try simp -implicitDefEqProofs (disch := first | assumption | (try simp only [lens]); omega -splitDisjunctions)))))
     all_goals first | rfl | skip
    ·rw [if_neg hL]
     have hL' : ¬ (200 : Int) < (L.length : Int) := by omega
     ((refine Sg.h ?_); try repeat' ((first | (with_reducible first | refine brA ?_ | refine brE fun _ => ?_ | (refine spl ⟨?_, ?_⟩ <;> intro _)) | refine clo hf1 ?_) <;> ((try simp -implicitDefEqProofs [hm']); (try simp -implicitDefEqProofs (disch := first | assumption | (try simp only [lens]); omega -splitDisjunctions) [hm']))))
     refine CL.sub [2] h0 ?_
     ((refine Sg.h ?_); try repeat' ((first | (with_reducible first | refine brA ?_ | refine brE fun _ => ?_ | (refine spl ⟨?_, ?_⟩ <;> intro _))) <;> ((try simp -implicitDefEqProofs); (try simp -implicitDefEqProofs (disch := first | assumption | (try simp only [lens]); omega -splitDisjunctions)))))
     refine CL.sub [2] hb ?_
     ((refine Sg.h ?_); try repeat' ((first | (with_reducible first | refine brA ?_ | refine brE fun _ => ?_ | (refine spl ⟨?_, ?_⟩ <;> intro _)) | refine clo hn ?_ | refine clo hf1 ?_) <;> ((try simp -implicitDefEqProofs [hk', hL']); (try simp -implicitDefEqProofs (disch := first | assumption | (try simp only [lens]); omega -splitDisjunctions) [hk', hL']))))
     refine And.intro ?_ ?_
     all_goals (refine DRec.sub (s2 := [.rows 3 [frm f], .rows 2 [[.int .i64 0, .int .i64 0]]]) [0, 1] (by simpa using parse1_none f) ?_)
     all_goals (((refine Sg.h ?_); try repeat' ((first | (with_reducible first | refine brA ?_ | refine brE fun _ => ?_ | (refine spl ⟨?_, ?_⟩ <;> intro _))) <;> ((try simp -implicitDefEqProofs); (try simp -implicitDefEqProofs (disch := first | assumption | (try simp only [lens]); omega -splitDisjunctions))))))
     all_goals first | rfl | skip
end Go.Proofs.Ytcllmionhlmjfaa
namespace Go.Proofs.Ytcllmionhlmjfaa
open Go Go.Pv
theorem Fm.ind {p : Fm → Prop} (h : ∀ f : Fm, (∀ g ∈ f.kids, p g) → p f) : ∀ f, p f
 | .mk k nm kids => h _ fun g hg => Fm.ind h g
termination_by f => SizeOf.sizeOf f
decreasing_by
 have := List.sizeOf_lt_of_mem hg
 simp only [Fm.kids, Fm.mk.sizeOf_spec] at *
 omega
mutual
def vastB : Fm → Int → Bool
 | .mk _ _ kids, d => decide (25000 < d) || (decide (25000 < (kids.length : Int)) || vastsB kids (d + 1))
def vastsB : List Fm → Int → Bool
 | [], _ => false
 | f :: r, d => vastB f d || vastsB r d
end
theorem vastB_eq (f : Fm) (d : Int) : vastB f d = (decide (25000 < d) || (decide (25000 < (f.kids.length : Int)) || vastsB f.kids (d + 1))) := by
 cases f with | mk k nm l => rw [vastB]; rfl
theorem vastsB_drop (l : List Fm) (i : Nat) (h : i < l.length) (d : Int) : vastsB (l.drop i) d = (vastB l[i] d || vastsB (l.drop (i + 1)) d) := by
 rw [List.drop_eq_getElem_cons h, vastsB]
theorem vast_ref (f : Fm) : ∀ (d : Int), 0 ≤ d → d ≤ 25001 → ∀ s : Store, CallOK Try.prog 12 [.agg (frm f), .int .i64 d] s (.bool (vastB f d)) s := by
 induction f using Fm.ind with
 | h f ih =>
 intro d hd0 hd1 s
 refine CallOK.frame ?_ ?_
 ·refine callOK_of Try.func12 rfl rfl Try.ntmps12 (by simp) ?_
  rw [Try.results12]
  dsimp only [light, regL, dsts, lopsL, lop, nth]
  have hmax : maxLen = 9223372036854775807 := rfl
  have hv := vastB_eq f d
  (have F_ := And.intro @frm_length (And.intro @frm_take (And.intro @frm_drop3 (And.intro @frm_drop2 (And.intro @frm_get0 (And.intro @frm_get1 (@frm_get2))))))); repeat' (first | (with_reducible refine stp ?_) | (with_reducible refine hq _ _ ?_; clear hq q) | (with_reducible refine hk _ _ ?_; clear hk k) | (with_reducible refine EvL.regA (fun k hk => ?_)) | ((with_reducible apply WOps.call); (· exact dOK); (· exact vOK); (· first | assumption | exact EnT.h); (· exact argsOK (x := by first | fail))) | (with_reducible refine WOps.auto F_ (fun q hq => ?_)) | ((with_reducible refine EvL.condA ?_ ?_); all_goals (intro h <;> (try simp only [hna, hnb, hnc, ne_eq, reduceCtorEq, Int.reduceEq, gt_iff_lt, ge_iff_le] at h) <;> (try (exfalso; omega; done)))) | (with_reducible refine EvL.drawnA (fun k hk => ?_)) | (with_reducible refine EvL.mixA (fun k hk => ?_)) | (with_reducible refine EvL.mix2A (fun k hk => ?_)) | (with_reducible refine WMix.bothA F_ ?_ ?_) | (with_reducible refine WOps.takeA ?_) | (with_reducible refine WOps.passA ?_) | ((with_reducible refine WOps.splitA ?_ ?_); all_goals (intro h <;> simp only [h] <;> (try simp only [hna, hnb, hnc, ne_eq, reduceCtorEq, Int.reduceEq, gt_iff_lt, ge_iff_le] at h) <;> (try (exfalso; omega; done)))) | (with_reducible refine WMix.takeA ?_) | (with_reducible refine WMix.passA ?_) | ((with_reducible apply WMix.cons); (· exact dOK); (· decide); (· intro t; (with_reducible apply WG.call); (· exact vOK); (· first | assumption | exact EnT.h); (· exact argsOK (x := by first | fail)))) | (with_reducible refine WMix.consA F_ ?_) | (with_reducible refine WMix.makeA F_ ?_) | ((with_reducible refine And.intro ?_ ?_); (· omega)) | ((with_reducible refine And.intro (fun h => ?_) (fun h => ?_)) <;> (try simp only [Decidable.not_not] at h) <;> (try simp only [h])) | (with_reducible intro hl))
  ·(refine finA ?_; try exact trivial)
   rw [hv, decide_eq_true ‹25000 < d›]; rfl
  ·(refine finA ?_; try exact trivial)
   rw [hv, decide_eq_true h]; simp
  ·rename_i hl
   have hd2 : d + 1 ≤ 25001 := by omega
   have hwd : IntKind.i64.wrap (d + 1) = d + 1 := wrapi (by omega) (by omega)
   refine EvL.loop (X := Nat) (fun i => [(1, .int .i64 d), (2, .ptr 0 0 0), (5, .int .i64 (i : Int))])
    (fun i => [.rows 3 [frm f]]) (fun i => i ≤ f.kids.length ∧ vastB f d = vastsB (f.kids.drop i) (d + 1)) (fun i => f.kids.length - i) 0 ⟨by omega, by rw [hv, decide_eq_false (by omega), decide_eq_false (by omega)]; rfl⟩
    (View.of [0] _ (by simp) (by decide) (by (refine vw ?_; try exact trivial); exact frm_ren _ _) (by (refine vw ?_; try exact trivial))) (fun i hi => ?_)
   by_cases hlt : i < f.kids.length
   ·have hrow : (f.kids.map frm)[i]? = some (frm f.kids[i]) := map_get _ _ _ _ (List.getElem?_eq_getElem hlt)
    have hw := wrap_up i (by omega)
    have hd := vastsB_drop f.kids i hlt (d + 1)
    (have F_ := And.intro @hrow (And.intro @hw (And.intro @hwd (And.intro @frm_length (And.intro @frm_cell (And.intro @frm_take (And.intro @frm_drop3 (And.intro @frm_drop2 (And.intro @frm_get0 (And.intro @frm_get1 (@frm_get2))))))))))); repeat' (first | (with_reducible refine stp ?_) | (with_reducible refine hq _ _ ?_; clear hq q) | (with_reducible refine hk _ _ ?_; clear hk k) | (with_reducible refine EvL.regA (fun k hk => ?_)) | ((with_reducible apply WOps.call); (· exact dOK); (· exact vOK); (· first | assumption | exact EnT.h); (· exact argsOK (x := by first | exact ih _ (List.getElem_mem hlt) _ (by omega) hd2 _))) | (with_reducible refine WOps.auto F_ (fun q hq => ?_)) | ((with_reducible refine EvL.condA ?_ ?_); all_goals (intro h <;> (try simp only [hna, hnb, hnc, ne_eq, reduceCtorEq, Int.reduceEq, gt_iff_lt, ge_iff_le] at h) <;> (try (exfalso; omega; done)))) | (with_reducible refine EvL.drawnA (fun k hk => ?_)) | (with_reducible refine EvL.mixA (fun k hk => ?_)) | (with_reducible refine EvL.mix2A (fun k hk => ?_)) | (with_reducible refine WMix.bothA F_ ?_ ?_) | (with_reducible refine WOps.takeA ?_) | (with_reducible refine WOps.passA ?_) | ((with_reducible refine WOps.splitA ?_ ?_); all_goals (intro h <;> simp only [h] <;> (try simp only [hna, hnb, hnc, ne_eq, reduceCtorEq, Int.reduceEq, gt_iff_lt, ge_iff_le] at h) <;> (try (exfalso; omega; done)))) | (with_reducible refine WMix.takeA ?_) | (with_reducible refine WMix.passA ?_) | ((with_reducible apply WMix.cons); (· exact dOK); (· decide); (· intro t; (with_reducible apply WG.call); (· exact vOK); (· first | assumption | exact EnT.h); (· exact argsOK (x := by first | exact ih _ (List.getElem_mem hlt) _ (by omega) hd2 _)))) | (with_reducible refine WMix.consA F_ ?_) | (with_reducible refine WMix.makeA F_ ?_) | ((with_reducible refine And.intro ?_ ?_); (· omega)) | ((with_reducible refine And.intro (fun h => ?_) (fun h => ?_)) <;> (try simp only [Decidable.not_not] at h) <;> (try simp only [h])) | (with_reducible intro hl))
    ·(refine finA ?_; try exact trivial)
     rw [hi.2, hd, h]; rfl
    ·refine ⟨i + 1, ⟨by omega, ?_⟩, by omega, View.of [0] _ (by simp) (by decide) (by (refine vw ?_; try exact trivial); exact frm_ren _ _) (by (refine vw ?_; try exact trivial))⟩
     rw [hi.2, hd, h]; rfl
   ·(have F_ := And.intro @frm_length (And.intro @frm_take (And.intro @frm_drop3 (And.intro @frm_drop2 (And.intro @frm_get0 (And.intro @frm_get1 (@frm_get2))))))); repeat' (first | (with_reducible refine stp ?_) | (with_reducible refine hq _ _ ?_; clear hq q) | (with_reducible refine hk _ _ ?_; clear hk k) | (with_reducible refine EvL.regA (fun k hk => ?_)) | ((with_reducible apply WOps.call); (· exact dOK); (· exact vOK); (· first | assumption | exact EnT.h); (· exact argsOK (x := by first | fail))) | (with_reducible refine WOps.auto F_ (fun q hq => ?_)) | ((with_reducible refine EvL.condA ?_ ?_); all_goals (intro h <;> (try simp only [hna, hnb, hnc, ne_eq, reduceCtorEq, Int.reduceEq, gt_iff_lt, ge_iff_le] at h) <;> (try (exfalso; omega; done)))) | (with_reducible refine EvL.drawnA (fun k hk => ?_)) | (with_reducible refine EvL.mixA (fun k hk => ?_)) | (with_reducible refine EvL.mix2A (fun k hk => ?_)) | (with_reducible refine WMix.bothA F_ ?_ ?_) | (with_reducible refine WOps.takeA ?_) | (with_reducible refine WOps.passA ?_) | ((with_reducible refine WOps.splitA ?_ ?_); all_goals (intro h <;> simp only [h] <;> (try simp only [hna, hnb, hnc, ne_eq, reduceCtorEq, Int.reduceEq, gt_iff_lt, ge_iff_le] at h) <;> (try (exfalso; omega; done)))) | (with_reducible refine WMix.takeA ?_) | (with_reducible refine WMix.passA ?_) | ((with_reducible apply WMix.cons); (· exact dOK); (· decide); (· intro t; (with_reducible apply WG.call); (· exact vOK); (· first | assumption | exact EnT.h); (· exact argsOK (x := by first | fail)))) | (with_reducible refine WMix.consA F_ ?_) | (with_reducible refine WMix.makeA F_ ?_) | ((with_reducible refine And.intro ?_ ?_); (· omega)) | ((with_reducible refine And.intro (fun h => ?_) (fun h => ?_)) <;> (try simp only [Decidable.not_not] at h) <;> (try simp only [h])) | (with_reducible intro hl))
    (refine finA ?_; try exact trivial)
    rw [hi.2, List.drop_eq_nil_of_le (by omega)]; rfl
 ·intro a ha; simp only [List.mem_cons, List.not_mem_nil, or_false] at ha
  rcases ha with rfl | rfl
  ·exact closed_frm f
  ·exact (flat_int _ _).closed
theorem kids_len {pub : PHeap} {σ : Sig} {args : List PV} {cargs : Array Value} (h : RelA pub σ args cargs) (j : Nat) (f : Fm) (hv : args[j]? = some (.agg (frm f))) : f.kids.length ≤ maxLen := by
 obtain ⟨c, hc⟩ := relA_at h j _ hv
 obtain ⟨c', hc'⟩ := rel_agg_at hc 2 _ (frm_get2 f)
 simpa using rel_list_len hc'
mutual
def walkL : Fm → Int → List Fm
 | .mk k nm kids, most => walkK kids [.mk k nm kids] most
def walkK : List Fm → List Fm → Int → List Fm
 | [], out, _ => out
 | f :: r, out, most => if (out.length : Int) ≤ most then walkK r (out ++ walkL f (most - out.length)) most else out
end
theorem walkL_eq (f : Fm) (most : Int) : walkL f most = walkK f.kids [f] most := by
 cases f with | mk k nm l => rw [walkL]; rfl
theorem walkK_drop (l : List Fm) (i : Nat) (h : i < l.length) (out : List Fm) (most : Int) : walkK (l.drop i) out most = if (out.length : Int) ≤ most then walkK (l.drop (i + 1)) (out ++ walkL l[i] (most - out.length)) most else out := by
 rw [List.drop_eq_getElem_cons h, walkK]
theorem walkK_len (l : List Fm) (ih : ∀ f ∈ l, ∀ most : Int, 0 ≤ most → 1 ≤ (walkL f most).length ∧ ((walkL f most).length : Int) ≤ most + 1) : ∀ (out : List Fm) (most : Int), 1 ≤ out.length → (out.length : Int) ≤ most + 1 → 1 ≤ (walkK l out most).length ∧ ((walkK l out most).length : Int) ≤ most + 1 := by
 induction l with
 | nil => intro out most h1 h2; rw [walkK]; exact ⟨h1, h2⟩
 | cons f r ih2 =>
  intro out most h1 h2
  rw [walkK]
  split
  ·rename_i h3
   obtain ⟨h4, h5⟩ := ih f (by simp) (most - out.length) (by omega)
   exact ih2 (fun g hg => ih g (by simp [hg])) _ most (by simp; omega) (by simp; omega)
  ·exact ⟨h1, h2⟩
theorem walk_len (f : Fm) : ∀ most : Int, 0 ≤ most → 1 ≤ (walkL f most).length ∧ ((walkL f most).length : Int) ≤ most + 1 := by
 induction f using Fm.ind with
 | h f ih => intro most hm; rw [walkL_eq]; exact walkK_len _ ih _ _ (by simp) (by simp; omega)
theorem frms_rows (l : List Fm) : (∀ row : List PV, row ∈ List.map frm l → row.length = 3 ∧ row.all isCell = true) ↔ True :=
 iff_true_intro fun row h => by
  rw [List.mem_map] at h
  obtain ⟨f, _, rfl⟩ := h
  exact ⟨frm_length f, frm_cell f⟩
theorem walk_ref (f : Fm) : ∀ (most : Int), 0 ≤ most → most ≤ 200000 → ∀ s : Store, CallOK Try.prog 47 [.agg (frm f), .int .i64 most] s (.list ((walkL f most).map frm)) s := by
 induction f using Fm.ind with
 | h f ih =>
 intro most hm0 hm1 s
 refine CallOK.given (f.kids.length ≤ maxLen) (fun _ _ _ h => kids_len h 0 f rfl) fun hkl => ?_
 refine CallOK.frame ?_ ?_
 ·refine callOK_of Try.func47 rfl rfl Try.ntmps47 (by simp) ?_
  rw [Try.results47]
  dsimp only [light, regL, dsts, lopsL, lop, nth]
  have hmax : maxLen = 9223372036854775807 := rfl
  have hv := walkL_eq f most
  (have F_ := And.intro @frm_length (And.intro @frm_take (And.intro @frm_cell (And.intro @frm_drop3 (And.intro @frm_drop2 (And.intro @frm_get0 (And.intro @frm_get1 (@frm_get2)))))))); repeat' (first | (with_reducible refine stp ?_) | (with_reducible refine hq _ _ ?_; clear hq q) | (with_reducible refine hk _ _ ?_; clear hk k) | (with_reducible refine EvL.regA (fun k hk => ?_)) | ((with_reducible apply WOps.call); (· exact dOK); (· exact vOK); (· first | assumption | exact EnT.h); (· exact argsOK (x := by first | fail))) | (with_reducible refine WOps.auto F_ (fun q hq => ?_)) | ((with_reducible refine EvL.condA ?_ ?_); all_goals (intro h <;> (try simp only [hna, hnb, hnc, ne_eq, reduceCtorEq, Int.reduceEq, gt_iff_lt, ge_iff_le] at h) <;> (try (exfalso; omega; done)))) | (with_reducible refine EvL.drawnA (fun k hk => ?_)) | (with_reducible refine EvL.mixA (fun k hk => ?_)) | (with_reducible refine EvL.mix2A (fun k hk => ?_)) | (with_reducible refine WMix.bothA F_ ?_ ?_) | (with_reducible refine WOps.takeA ?_) | (with_reducible refine WOps.passA ?_) | ((with_reducible refine WOps.splitA ?_ ?_); all_goals (intro h <;> simp only [h] <;> (try simp only [hna, hnb, hnc, ne_eq, reduceCtorEq, Int.reduceEq, gt_iff_lt, ge_iff_le] at h) <;> (try (exfalso; omega; done)))) | (with_reducible refine WMix.takeA ?_) | (with_reducible refine WMix.passA ?_) | ((with_reducible apply WMix.cons); (· exact dOK); (· decide); (· intro t; (with_reducible apply WG.call); (· exact vOK); (· first | assumption | exact EnT.h); (· exact argsOK (x := by first | fail)))) | (with_reducible refine WMix.consA F_ ?_) | (with_reducible refine WMix.makeA F_ ?_) | ((with_reducible refine And.intro ?_ ?_); (· omega)) | ((with_reducible refine And.intro (fun h => ?_) (fun h => ?_)) <;> (try simp only [Decidable.not_not] at h) <;> (try simp only [h])) | (with_reducible intro hl))
  refine EvL.loop (X := Nat × List Fm) (fun x => [(1, .int .i64 most), (2, .ptr 0 0 0), (5, .sl 1 0 x.2.length), (6, .int .i64 (x.1 : Int))])
   (fun x => [.rows 3 [frm f], .rows 3 (x.2.map frm)]) (fun x => x.1 ≤ f.kids.length ∧ 1 ≤ x.2.length ∧ (x.2.length : Int) ≤ most + 1 ∧ walkL f most = walkK (f.kids.drop x.1) x.2 most) (fun x => f.kids.length - x.1) (0, [f]) ⟨by simp, by simp, by simp; omega, hv⟩
   (View.of [0, 1] _ (by simp) (by decide) (by (refine vw ?_; try exact trivial); exact ⟨frm_ren _ _, frm_ren _ _⟩) (by (refine vw ?_; try exact trivial))) (fun x hx => ?_)
  obtain ⟨i, out⟩ := x
  obtain ⟨hi, ho1, ho2, hx⟩ := hx
  simp only at hi ho1 ho2 hx
  by_cases hlt : i < f.kids.length
  ·have hrow : (f.kids.map frm)[i]? = some (frm f.kids[i]) := map_get _ _ _ _ (List.getElem?_eq_getElem hlt)
   have hw := wrap_up i (by omega)
   have hd := walkK_drop f.kids i hlt out most
   have hto : (out.map frm).take out.length = out.map frm := List.take_of_length_le (by simp)
   have hsub : IntKind.i64.wrap (most - (out.length : Int)) = most - out.length := wrapi (by omega) (by omega)
   by_cases hle : (out.length : Int) ≤ most
   ·have hlen := walk_len f.kids[i] (most - out.length) (by omega)
    (have F_ := And.intro @hrow (And.intro @hw (And.intro @hsub (And.intro @hto (And.intro @hle (And.intro @frms_rows (And.intro @frm_length (And.intro @frm_cell (And.intro @frm_take (And.intro @frm_drop3 (And.intro @frm_drop2 (And.intro @frm_get0 (And.intro @frm_get1 (@frm_get2)))))))))))))); repeat' (first | (with_reducible refine stp ?_) | (with_reducible refine hq _ _ ?_; clear hq q) | (with_reducible refine hk _ _ ?_; clear hk k) | (with_reducible refine EvL.regA (fun k hk => ?_)) | ((with_reducible apply WOps.call); (· exact dOK); (· exact vOK); (· first | assumption | exact EnT.h); (· exact argsOK (x := by first | exact ih _ (List.getElem_mem hlt) _ (by omega) (by omega) _))) | (with_reducible refine WOps.auto F_ (fun q hq => ?_)) | ((with_reducible refine EvL.condA ?_ ?_); all_goals (intro h <;> (try simp only [hna, hnb, hnc, ne_eq, reduceCtorEq, Int.reduceEq, gt_iff_lt, ge_iff_le] at h) <;> (try (exfalso; omega; done)))) | (with_reducible refine EvL.drawnA (fun k hk => ?_)) | (with_reducible refine EvL.mixA (fun k hk => ?_)) | (with_reducible refine EvL.mix2A (fun k hk => ?_)) | (with_reducible refine WMix.bothA F_ ?_ ?_) | (with_reducible refine WOps.takeA ?_) | (with_reducible refine WOps.passA ?_) | ((with_reducible refine WOps.splitA ?_ ?_); all_goals (intro h <;> simp only [h] <;> (try simp only [hna, hnb, hnc, ne_eq, reduceCtorEq, Int.reduceEq, gt_iff_lt, ge_iff_le] at h) <;> (try (exfalso; omega; done)))) | (with_reducible refine WMix.takeA ?_) | (with_reducible refine WMix.passA ?_) | ((with_reducible apply WMix.cons); (· exact dOK); (· decide); (· intro t; (with_reducible apply WG.call); (· exact vOK); (· first | assumption | exact EnT.h); (· exact argsOK (x := by first | exact ih _ (List.getElem_mem hlt) _ (by omega) (by omega) _)))) | (with_reducible refine WMix.consA F_ ?_) | (with_reducible refine WMix.makeA F_ ?_) | ((with_reducible refine And.intro ?_ ?_); (· omega)) | ((with_reducible refine And.intro (fun h => ?_) (fun h => ?_)) <;> (try simp only [Decidable.not_not] at h) <;> (try simp only [h])) | (with_reducible intro hl))
    rw [← List.map_append]
    refine ⟨(i + 1, out ++ walkL f.kids[i] (most - out.length)), ⟨by simp only; omega, by simp only [List.length_append]; omega, by simp only [List.length_append]; omega, ?_⟩, by simp only; omega, View.of [0, 2] _ (by simp) (by decide) (by (refine vw ?_; try exact trivial); exact ⟨frm_ren _ _, frms_ren _ _⟩) (by (refine vw ?_; try exact trivial))⟩
    simp only
    rw [hx, hd, if_pos hle]
   ·(have F_ := And.intro @hrow (And.intro @hw (And.intro @hsub (And.intro @hto (And.intro @hle (And.intro @frm_length (And.intro @frm_cell (And.intro @frm_take (And.intro @frm_drop3 (And.intro @frm_drop2 (And.intro @frm_get0 (And.intro @frm_get1 (@frm_get2))))))))))))); repeat' (first | (with_reducible refine stp ?_) | (with_reducible refine hq _ _ ?_; clear hq q) | (with_reducible refine hk _ _ ?_; clear hk k) | (with_reducible refine EvL.regA (fun k hk => ?_)) | ((with_reducible apply WOps.call); (· exact dOK); (· exact vOK); (· first | assumption | exact EnT.h); (· exact argsOK (x := by first | fail))) | (with_reducible refine WOps.auto F_ (fun q hq => ?_)) | ((with_reducible refine EvL.condA ?_ ?_); all_goals (intro h <;> (try simp only [hna, hnb, hnc, ne_eq, reduceCtorEq, Int.reduceEq, gt_iff_lt, ge_iff_le] at h) <;> (try (exfalso; omega; done)))) | (with_reducible refine EvL.drawnA (fun k hk => ?_)) | (with_reducible refine EvL.mixA (fun k hk => ?_)) | (with_reducible refine EvL.mix2A (fun k hk => ?_)) | (with_reducible refine WMix.bothA F_ ?_ ?_) | (with_reducible refine WOps.takeA ?_) | (with_reducible refine WOps.passA ?_) | ((with_reducible refine WOps.splitA ?_ ?_); all_goals (intro h <;> simp only [h] <;> (try simp only [hna, hnb, hnc, ne_eq, reduceCtorEq, Int.reduceEq, gt_iff_lt, ge_iff_le] at h) <;> (try (exfalso; omega; done)))) | (with_reducible refine WMix.takeA ?_) | (with_reducible refine WMix.passA ?_) | ((with_reducible apply WMix.cons); (· exact dOK); (· decide); (· intro t; (with_reducible apply WG.call); (· exact vOK); (· first | assumption | exact EnT.h); (· exact argsOK (x := by first | fail)))) | (with_reducible refine WMix.consA F_ ?_) | (with_reducible refine WMix.makeA F_ ?_) | ((with_reducible refine And.intro ?_ ?_); (· omega)) | ((with_reducible refine And.intro (fun h => ?_) (fun h => ?_)) <;> (try simp only [Decidable.not_not] at h) <;> (try simp only [h])) | (with_reducible intro hl))
    (refine finA ?_; try exact trivial)
    rw [hx, hd, if_neg hle]
    simp only [List.length_map, Nat.le_refl, if_true, hto, frms_deref]
  ·(have F_ := And.intro @frm_length (And.intro @frm_take (And.intro @frm_drop3 (And.intro @frm_drop2 (And.intro @frm_get0 (And.intro @frm_get1 (@frm_get2))))))); repeat' (first | (with_reducible refine stp ?_) | (with_reducible refine hq _ _ ?_; clear hq q) | (with_reducible refine hk _ _ ?_; clear hk k) | (with_reducible refine EvL.regA (fun k hk => ?_)) | ((with_reducible apply WOps.call); (· exact dOK); (· exact vOK); (· first | assumption | exact EnT.h); (· exact argsOK (x := by first | fail))) | (with_reducible refine WOps.auto F_ (fun q hq => ?_)) | ((with_reducible refine EvL.condA ?_ ?_); all_goals (intro h <;> (try simp only [hna, hnb, hnc, ne_eq, reduceCtorEq, Int.reduceEq, gt_iff_lt, ge_iff_le] at h) <;> (try (exfalso; omega; done)))) | (with_reducible refine EvL.drawnA (fun k hk => ?_)) | (with_reducible refine EvL.mixA (fun k hk => ?_)) | (with_reducible refine EvL.mix2A (fun k hk => ?_)) | (with_reducible refine WMix.bothA F_ ?_ ?_) | (with_reducible refine WOps.takeA ?_) | (with_reducible refine WOps.passA ?_) | ((with_reducible refine WOps.splitA ?_ ?_); all_goals (intro h <;> simp only [h] <;> (try simp only [hna, hnb, hnc, ne_eq, reduceCtorEq, Int.reduceEq, gt_iff_lt, ge_iff_le] at h) <;> (try (exfalso; omega; done)))) | (with_reducible refine WMix.takeA ?_) | (with_reducible refine WMix.passA ?_) | ((with_reducible apply WMix.cons); (· exact dOK); (· decide); (· intro t; (with_reducible apply WG.call); (· exact vOK); (· first | assumption | exact EnT.h); (· exact argsOK (x := by first | fail)))) | (with_reducible refine WMix.consA F_ ?_) | (with_reducible refine WMix.makeA F_ ?_) | ((with_reducible refine And.intro ?_ ?_); (· omega)) | ((with_reducible refine And.intro (fun h => ?_) (fun h => ?_)) <;> (try simp only [Decidable.not_not] at h) <;> (try simp only [h])) | (with_reducible intro hl))
   have hto : (out.map frm).take out.length = out.map frm := List.take_of_length_le (by simp)
   (refine finA ?_; try exact trivial)
   rw [hx, List.drop_eq_nil_of_le (by omega), walkK]
   simp only [List.length_map, Nat.le_refl, if_true, hto, frms_deref]
 ·intro a ha; simp only [List.mem_cons, List.not_mem_nil, or_false] at ha
  rcases ha with rfl | rfl
  ·exact closed_frm f
  ·exact (flat_int _ _).closed
end Go.Proofs.Ytcllmionhlmjfaa
