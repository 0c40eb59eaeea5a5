import Derived.Test.YtkadceiolddmhaaACcW
import Derived.Test.YtkadceiolddmhaaACcZ
set_option linter.unusedVariables false
set_option linter.unusedSimpArgs false
set_option maxRecDepth 100000
set_option maxHeartbeats 4000000
namespace Go.Proofs.Ytkadceiolddmhaa
open Go Go.Pv
def cutNm : ByteArray := ⟨#[99, 117, 116]⟩
structure Ms where
 a : Int
 b : Int
 c : Int
def lenF (f : Fm) : Int := ((nodesGo 200 200 [f]).length : Int)
def Ms.add (m : Ms) (x : Pf × Int) : Ms := ⟨m.a + 1, max m.b x.2, if x.1.rule = cutNm then max m.c (lenF x.1.f) else m.c⟩
theorem lenF_le (f : Fm) : 0 ≤ lenF f ∧ lenF f ≤ 200 := ⟨Int.natCast_nonneg _, by have := nodesGo_len 200 200 [f]; unfold lenF; omega⟩
def msS (m : Ms) : Store := [.rows 1 [[.int .i64 m.a]], .rows 1 [[.int .i64 m.b]], .rows 1 [[.int .i64 m.c]]]
def msT (m : Ms) : Store := [.rows 1 [[.int .i64 m.a]], .rows 1 [[.int .i64 m.b]], .rows 1 [[.int .i64 m.c]], .rows 1 [[.fn (.func 87) [] [.ptr 0 0 0, .ptr 1 0 0, .ptr 2 0 0]]], .rows 1 [[.fn (.func 126) [] [.ptr 3 0 0, .ptr 4 0 0]]]]
def x87 : XC := .seq (.reg [⟨some 5,.box 64 (.tmp 0),none⟩,⟨some 7,.assign (.const (.bool false)),none⟩]) (.seq (.reg [⟨some 8,.load 3 (.tmp 2),none⟩,⟨some 9,.binOp .add 3 (.tmp 8) (.const (.int .i64 1)) 3,none⟩,⟨none,.store 3 (.tmp 2) (.tmp 9),none⟩]) (.seq (.reg [⟨some 10,.load 3 (.tmp 3),none⟩,⟨some 11,.move (.tmp 1),none⟩,⟨some 12,.call ⟨.builtin .max,#[.tmp 10,.tmp 11],#[3,3]⟩,none⟩,⟨none,.store 3 (.tmp 3) (.tmp 12),none⟩]) (.seq (.seq (.reg [⟨some 13,.fieldAddr 64 (.tmp 5) 0,none⟩,⟨some 14,.load 9 (.tmp 13),none⟩,⟨some 15,.binOp .eql 9 (.tmp 14) (.const (.string ⟨#[99,117,116]⟩)) 9,none⟩]) (.cond (.tmp 15) (.drawn 4 [⟨some 16,.load 3 (.tmp 4),none⟩,⟨some 17,.fieldAddr 64 (.tmp 5) 1,none⟩,⟨some 18,.load 59 (.tmp 17),none⟩,⟨some 19,.call ⟨.value (.func 88),#[.tmp 18,.const (.int .i64 200)],#[59,3]⟩,none⟩,⟨some 20,.call ⟨.builtin .len,#[.tmp 19],#[57]⟩,none⟩,⟨some 21,.call ⟨.builtin .max,#[.tmp 16,.tmp 20],#[3,3]⟩,none⟩,⟨none,.store 3 (.tmp 4) (.tmp 21),none⟩]) .skip)) (.seq (.reg [⟨some 7,.assign (.const (.bool true)),none⟩]) .ret))))
@[simp] theorem x87_s {C e s K} : type_of% (@X_at C e s K _ _ x87.eq_1) := X_at x87.eq_1
def an87 : Ann := ⟨[(4, .mix 5)], [], []⟩
@[simp] theorem an87_a : an87.clsOf 4 = .mix 5 ∧ an87.frzOf 4 = [] := ⟨rfl, rfl⟩
theorem fi87 : FI Try.prog 87 (cxA an87) x87 [.tmp 7] Try.f87 := fiA Try.func87 mixed
theorem Measure1_cut (q : Pf) (d : Int) (m : Ms) (ha : 0 ≤ m.a ∧ m.a ≤ 1000000) : CallOK Try.prog 87 [.agg (prf q), .int .i64 d, .ptr 0 0 0, .ptr 1 0 0, .ptr 2 0 0] (msS m) (.bool true) (msS (m.add (q, d))) := by
 refine fi87.og ?_
 unfold Ms.add msS
 have hn := nodes_formula q.f 200 (by decide) []
 have hl := lenF_le q.f
 unfold cutNm
 unfold lenF at hl ⊢
 generalize nodesGo 200 200 [q.f] = L at *
 obtain ⟨a, b, c⟩ := m
 dsimp only at ha ⊢
 by_cases hr : q.rule = ⟨#[99, 117, 116]⟩
 ·((refine Sg.h ?_); try repeat' ((first | (with_reducible first | refine brA ?_ | refine brE fun _ => ?_ | (refine spl ⟨?_, ?_⟩ <;> intro _)) | refine clo hn ?_) <;> ((try simp -implicitDefEqProofs [hr]); (try simp -implicitDefEqProofs (disch := first | assumption | (try simp only [lens]); omega -splitDisjunctions) [hr]))))
 ·((refine Sg.h ?_); try repeat' ((first | (with_reducible first | refine brA ?_ | refine brE fun _ => ?_ | (refine spl ⟨?_, ?_⟩ <;> intro _))) <;> ((try simp -implicitDefEqProofs [hr]); (try simp -implicitDefEqProofs (disch := first | assumption | (try simp only [lens]); omega -splitDisjunctions) [hr]))))
theorem foldl_add_a : ∀ (L : List (Pf × Int)) (m : Ms), (L.foldl Ms.add m).a = m.a + L.length
 | [], m => by simp
 | x :: r, m => by
  rw [List.foldl_cons, foldl_add_a r]
  show m.a + 1 + (r.length : Int) = _
  rw [List.length_cons]; omega
def x126_L0 : XC := .seq (.reg [⟨some 18,.binOp .lss 3 (.tmp 17) (.tmp 16) 3,none⟩]) (.seq (.cond (.tmp 18) .skip (.exit 0)) (.seq (.block 1 (.seq (.reg [⟨some 19,.indexAddr 62 (.tmp 15) (.tmp 17),none⟩,⟨some 20,.load 64 (.tmp 19),none⟩,⟨some 8,.alloc 64,none⟩,⟨none,.store 64 (.tmp 8) (.tmp 20),none⟩]) (.seq (.reg [⟨some 21,.load 65 (.tmp 3),none⟩,⟨some 22,.load 64 (.tmp 8),none⟩,⟨some 23,.move (.tmp 1),none⟩,⟨some 24,.binOp .add 3 (.tmp 23) (.const (.int .i64 1)) 3,none⟩,⟨some 25,.call ⟨.value (.tmp 21),#[.tmp 22,.tmp 24],#[64,3]⟩,none⟩,⟨some 26,.unOp .not 4 (.tmp 25),none⟩]) (.cond (.tmp 26) (.seq (.reg [⟨some 6,.assign (.const (.bool false)),none⟩]) .ret) .skip)))) (.reg [⟨some 27,.binOp .add 3 (.tmp 17) (.const (.int .i64 1)) 3,none⟩,⟨some 17,.move (.tmp 27),none⟩])))
def x126 : XC := .seq (.reg [⟨some 4,.box 64 (.tmp 0),none⟩,⟨some 6,.assign (.const (.bool false)),none⟩]) (.seq (.seq (.reg [⟨some 9,.load 65 (.tmp 2),none⟩,⟨some 10,.load 64 (.tmp 4),none⟩,⟨some 11,.move (.tmp 1),none⟩,⟨some 12,.call ⟨.value (.tmp 9),#[.tmp 10,.tmp 11],#[64,3]⟩,none⟩,⟨some 13,.unOp .not 4 (.tmp 12),none⟩]) (.cond (.tmp 13) (.seq (.reg [⟨some 6,.assign (.const (.bool false)),none⟩]) .ret) .skip)) (.seq (.seq (.reg [⟨some 14,.fieldAddr 64 (.tmp 4) 3,none⟩,⟨some 15,.load 62 (.tmp 14),none⟩,⟨some 16,.call ⟨.builtin .len,#[.tmp 15],#[62]⟩,none⟩,⟨some 17,.move (.const (.int .i64 0)),none⟩]) (.bloop 0 x126_L0)) (.seq (.reg [⟨some 6,.assign (.const (.bool true)),none⟩]) .ret)))
@[simp] theorem x126_s {C e s K} : type_of% (@X_at C e s K _ _ x126_L0.eq_1) ∧ type_of% (@X_at C e s K _ _ x126.eq_1) := ⟨X_at x126_L0.eq_1, X_at x126.eq_1⟩
def an126 : Ann := ⟨[], [(0, [], [1, 3, 15, 16, 17], [6])], []⟩
@[simp] theorem an126_a : an126.loopOf 0 = ([], [1, 3, 15, 16, 17], [6]) := rfl
theorem fi126 : FI Try.prog 126 (cxA an126) x126 [.tmp 6] Try.f126 := fiA Try.func126 mixed
theorem each1_cut (p : Pf) (hp : Szs p) : ∀ (d : Int) (m : Ms), 0 ≤ d → (∀ x ∈ preD p d, x.2 ≤ 400) → 0 ≤ m.a → m.a + (preD p d).length ≤ 1000000 →
  CallOK Try.prog 126 [.agg (prf p), .int .i64 d, .ptr 3 0 0, .ptr 4 0 0] (msT m) (.bool true) (msT ((preD p d).foldl Ms.add m)) := by
 induction p using Pf.ind with
 | h p ih =>
  intro d m hd0 hx ha hal
  have hkl := hp.len
  have hd : d ≤ 400 := hx (p, d) (by rw [preD_eq]; exact List.mem_cons_self)
  have h1 := Measure1_cut p d m ⟨ha, by omega⟩
  refine fi126.og ?_
  rw [preD_eq, if_pos (by omega)] at hx hal ⊢
  rw [List.foldl_cons]
  have ha1 : (m.add (p, d)).a = m.a + 1 := rfl
  generalize m.add (p, d) = m1 at *
  rw [List.length_cons] at hal
  unfold msT msS at *
  ((refine Sg.h ?_); try repeat' ((first | (with_reducible first | refine brA ?_ | refine brE fun _ => ?_ | (refine spl ⟨?_, ?_⟩ <;> intro _))) <;> ((try simp -implicitDefEqProofs); (try simp -implicitDefEqProofs (disch := first | assumption | (try simp only [lens]); omega -splitDisjunctions)))))
  refine CL.sub [0, 1, 2] (hc := by simpa using h1) ?_
  ((refine Sg.h ?_); try repeat' ((first | (with_reducible first | refine brA ?_ | refine brE fun _ => ?_ | (refine spl ⟨?_, ?_⟩ <;> intro _))) <;> ((try simp -implicitDefEqProofs); (try simp -implicitDefEqProofs (disch := first | assumption | (try simp only [lens]); omega -splitDisjunctions)))))
  refine W_of fun Q hQ => ?_
  have main : ∀ r i (m2 : Ms), i + r = p.kids.length → m2 = (preDs (p.kids.take i) (d + 1)).foldl Ms.add m1 → m2.a = m1.a + (preDs (p.kids.take i) (d + 1)).length → Q [(1, .int .i64 d), (3, .ptr 4 0 0), (15, .list (p.kids.map prf)), (16, .int .i64 (p.kids.length : Int)), (17, .int .i64 (i : Int))]
    [.rows 1 [[.int .i64 m2.a]], .rows 1 [[.int .i64 m2.b]], .rows 1 [[.int .i64 m2.c]], .rows 1 [[.fn (.func 87) [] [.ptr 0 0 0, .ptr 1 0 0, .ptr 2 0 0]]], .rows 1 [[.fn (.func 126) [] [.ptr 3 0 0, .ptr 4 0 0]]]] := by
   intro r
   induction r with
   | zero =>
    intro i m2 hi hm hma
    obtain rfl : i = p.kids.length := by omega
    rw [List.take_length] at hm
    apply hQ
    clear hQ
    rw [← hm]
    ((refine Sg.h ?_); try repeat' ((first | (with_reducible first | refine brA ?_ | refine brE fun _ => ?_ | (refine spl ⟨?_, ?_⟩ <;> intro _))) <;> ((try simp -implicitDefEqProofs); (try simp -implicitDefEqProofs (disch := first | assumption | (try simp only [lens]); omega -splitDisjunctions)))))
   | succ r ihr =>
    intro i m2 hi hm hma
    have hil : i < p.kids.length := by omega
    have hks : preDs p.kids (d + 1) = preDs (p.kids.take i) (d + 1) ++ (preD p.kids[i] (d + 1) ++ preDs (p.kids.drop (i + 1)) (d + 1)) := by
     rw [← preDs, ← List.drop_eq_getElem_cons hil, preDs_eq, preDs_eq, preDs_eq, ← List.flatMap_append, List.take_append_drop]
    rw [hks] at hal
    simp only [List.length_append] at hal
    have hc := ih p.kids[i] (List.getElem_mem hil) (hp.kid (List.getElem_mem hil)) (d + 1) m2 (by omega) (fun x h => hx x (List.mem_cons_of_mem _ (by rw [hks]; simp [h]))) (by omega) (by omega)
    have ihr := ihr (i + 1) ((preD p.kids[i] (d + 1)).foldl Ms.add m2) (by omega) (by rw [take_snoc hil, preDs_snoc, List.foldl_append, hm]) (by rw [foldl_add_a, take_snoc hil, preDs_snoc, List.length_append]; omega)
    unfold msT at hc
    generalize (preD p.kids[i] (d + 1)).foldl Ms.add m2 = m3 at *
    clear hm hx hal hma hks
    apply hQ
    clear hQ
    ((refine Sg.h ?_); try repeat' ((first | (with_reducible first | refine brA ?_ | refine brE fun _ => ?_ | (refine spl ⟨?_, ?_⟩ <;> intro _))) <;> ((try simp -implicitDefEqProofs [hil, hd]); (try simp -implicitDefEqProofs (disch := first | assumption | (try simp only [lens]); omega -splitDisjunctions) [hil, hd]))))
    refine CL.sub [0, 1, 2, 3, 4] (hc := by simpa using hc) ?_
    ((refine Sg.h ?_); try repeat' ((first | (with_reducible first | refine brA ?_ | refine brE fun _ => ?_ | (refine spl ⟨?_, ?_⟩ <;> intro _))) <;> ((try simp -implicitDefEqProofs); (try simp -implicitDefEqProofs (disch := first | assumption | (try simp only [lens]); omega -splitDisjunctions)))))
    all_goals first | exact ihr | (refine at2 ihr ?_ ?_ <;> simp; done) | (exfalso; first | omega | (simp_all; done) | (simp_all; omega))
  all_goals first | exact main _ 0 m1 (Nat.zero_add _) (by simp [preDs]) (by simp [preDs]) | (refine at2 main _ 0 m1 (Nat.zero_add _) (by simp [preDs]) (by simp [preDs]) ?_ ?_ <;> simp; done) | (exfalso; first | omega | (simp_all; done) | (simp_all; omega))
end Go.Proofs.Ytkadceiolddmhaa
namespace Go.Proofs.Ytkadceiolddmhaa
open Go Go.Pv
theorem nodes_plain {f : Fm} (h : (plainF f).1 = 0) : nodesGo 200 200 [f] = pre f := by
 rw [nodesGo_take 200 200 [f] (by omega), pres_cons, pres_nil, List.append_nil, List.take_of_length_le ((plainF_iff f).1 h).2]
theorem cut_plain {u : Bool} {p : Pf} (hc : (checkF u p).1 = 0) : ∀ x ∈ preD p 1, x.1.rule = ⟨#[99, 117, 116]⟩ → (plainF x.1.f).1 = 0 := by
 intro x hx hr
 have hs : x.1 ∈ stepsP p := by rw [← (check_steps hc).1]; exact List.mem_map.2 ⟨x, hx, rfl⟩
 exact (fine_steps (Fine.of_look p 0 1 hc) x.1 hs).2 (by rw [hr]; decide)
theorem check_zero' {u : Bool} {p : Pf} (h : (checkF u p).1 = 0) : checkF u p = (0, 0) := by
 rw [check_scan] at h ⊢
 have key : ∀ (L : List (Pf × Int)) (n : Nat), (scanF u L n).2.1 = 0 → (scanF u L n).2 = (0, 0) := by
  intro L
  induction L with
  | nil => intro n _; rfl
  | cons x r ih =>
   intro n h
   rw [scanF] at h ⊢
   split at h
   ·cases h
   ·rename_i h1
    rw [if_neg h1]
    split at h
    ·cases h
    ·rename_i h2
     rw [if_neg h2]
     split at h
     ·rename_i h3; exact absurd h h3
     ·rename_i h3
      rw [if_neg h3]
      exact ih _ h
 exact key _ _ h
def x86 : XC := .seq (.reg [⟨some 2,.box 64 (.tmp 0),none⟩,⟨some 3,.box 65 (.tmp 1),none⟩]) (.seq (.reg [⟨some 4,.alloc 65,none⟩]) (.seq (.reg [⟨some 5,.makeFunc (.func 126) #[] #[.tmp 3,.tmp 4],none⟩,⟨none,.store 65 (.tmp 4) (.tmp 5),none⟩]) (.reg [⟨some 6,.load 65 (.tmp 4),none⟩,⟨some 7,.load 64 (.tmp 2),none⟩,⟨some 8,.call ⟨.value (.tmp 6),#[.tmp 7,.const (.int .i64 1)],#[64,3]⟩,none⟩])))
@[simp] theorem x86_s {C e s K} : type_of% (@X_at C e s K _ _ x86.eq_1) := X_at x86.eq_1
def an86 : Ann := ⟨[], [], []⟩
theorem fi86 : FI Try.prog 86 (cxA an86) x86 [] Try.f86 := fiA Try.func86 mixed
theorem each_cut (p : Pf) (hp : Szs p) (hd : ∀ x ∈ preD p 1, x.2 ≤ 400) (hl : (preD p 1).length ≤ 1000000) : CallOK Try.prog 86 [.agg (prf p), .fn (.func 87) [] [.ptr 0 0 0, .ptr 1 0 0, .ptr 2 0 0]] (msS ⟨0, 0, 0⟩) (.tuple []) (msS ((preD p 1).foldl Ms.add ⟨0, 0, 0⟩)) := by
 have h := each1_cut p hp 1 ⟨0, 0, 0⟩ (by decide) hd (by decide) (by dsimp only; omega)
 generalize (preD p 1).foldl Ms.add ⟨0, 0, 0⟩ = M at *
 unfold msT at h
 unfold msS
 refine fi86.og ?_
 ((refine Sg.h ?_); try repeat' ((first | (with_reducible first | refine brA ?_ | refine brE fun _ => ?_ | (refine spl ⟨?_, ?_⟩ <;> intro _))) <;> ((try simp -implicitDefEqProofs); (try simp -implicitDefEqProofs (disch := first | assumption | (try simp only [lens]); omega -splitDisjunctions)))))
 refine CL.sub [0, 1, 2, 4, 5] (hc := by simpa using h) ?_
 ((refine Sg.h ?_); try repeat' ((first | (with_reducible first | refine brA ?_ | refine brE fun _ => ?_ | (refine spl ⟨?_, ?_⟩ <;> intro _))) <;> ((try simp -implicitDefEqProofs); (try simp -implicitDefEqProofs (disch := first | assumption | (try simp only [lens]); omega -splitDisjunctions)))))
def x37 : XC := .seq (.reg [⟨some 2,.box 64 (.tmp 0),none⟩,⟨some 4,.alloc 3,none⟩,⟨some 5,.alloc 3,none⟩,⟨some 6,.alloc 3,none⟩,⟨some 7,.alloc 33,none⟩]) (.seq (.seq (.reg [⟨some 9,.load 64 (.tmp 2),none⟩,⟨some 10,.move (.tmp 1),none⟩,⟨some 11,.call ⟨.value (.func 85),#[.tmp 9,.tmp 10],#[64,4]⟩,none⟩,⟨some 8,.alloc 33,none⟩,⟨none,.store 33 (.tmp 8) (.tmp 11),none⟩]) (.seq (.reg [⟨some 12,.fieldAddr 33 (.tmp 8) 0,none⟩,⟨some 13,.load 3 (.tmp 12),none⟩,⟨some 14,.binOp .neq 3 (.tmp 13) (.const (.int .i64 0)) 3,none⟩]) (.cond (.tmp 14) (.seq (.drawn 3 [⟨some 15,.load 33 (.tmp 8),none⟩,⟨none,.store 3 (.tmp 4) (.const (.int .i64 0)),none⟩,⟨none,.store 3 (.tmp 5) (.const (.int .i64 0)),none⟩,⟨none,.store 3 (.tmp 6) (.const (.int .i64 0)),none⟩,⟨none,.store 33 (.tmp 7) (.tmp 15),none⟩]) .ret) .skip))) (.seq (.reg [⟨some 16,.load 64 (.tmp 2),none⟩,⟨some 17,.makeFunc (.func 87) #[] #[.tmp 4,.tmp 5,.tmp 6],none⟩,⟨some 18,.call ⟨.value (.func 86),#[.tmp 16,.tmp 17],#[64,65]⟩,none⟩]) (.seq (.drawn 5 [⟨some 19,.load 3 (.tmp 4),none⟩,⟨some 20,.load 3 (.tmp 5),none⟩,⟨some 21,.load 3 (.tmp 6),none⟩,⟨some 22,.load 33 (.tmp 7),none⟩,⟨none,.store 3 (.tmp 4) (.tmp 19),none⟩,⟨none,.store 3 (.tmp 5) (.tmp 20),none⟩,⟨none,.store 3 (.tmp 6) (.tmp 21),none⟩,⟨none,.store 33 (.tmp 7) (.tmp 22),none⟩]) .ret)))
@[simp] theorem x37_s {C e s K} : type_of% (@X_at C e s K _ _ x37.eq_1) := X_at x37.eq_1
def an37 : Ann := ⟨[(3, .tree (.op 0 (.op 1 (.ck 0 (.op 2 (.ck 0 (.op 3 (.ck 0 (.op 4 .fin))))))))), (5, .tree (.op 0 (.op 1 (.op 2 (.op 3 (.op 4 (.ck 1 (.ck 2 (.ck 3 (.op 5 (.ck 2 (.ck 3 (.op 6 (.ck 3 (.op 7 .fin)))))))))))))))], [], []⟩
@[simp] theorem an37_a : an37.clsOf 3 = .tree (.op 0 (.op 1 (.ck 0 (.op 2 (.ck 0 (.op 3 (.ck 0 (.op 4 .fin)))))))) ∧ an37.clsOf 5 = .tree (.op 0 (.op 1 (.op 2 (.op 3 (.op 4 (.ck 1 (.ck 2 (.ck 3 (.op 5 (.ck 2 (.ck 3 (.op 6 (.ck 3 (.op 7 .fin)))))))))))))) ∧ an37.frzOf 3 = [] ∧ an37.frzOf 5 = [] := ⟨rfl, rfl, rfl, rfl⟩
theorem fi37 : FI Try.prog 37 (cxA an37) x37 [.cell 4 3, .cell 5 3, .cell 6 3, .cell 7 33] Try.f37 := fiA Try.func37 mixed
theorem Measure_ok (u : Bool) (p : Pf) (hp : Szs p) (hc : (checkF u p).1 = 0) : CallOK Try.prog 37 [.agg (prf p), .bool u] [] (.tuple [.int .i64 ((preD p 1).foldl Ms.add ⟨0, 0, 0⟩).a, .int .i64 ((preD p 1).foldl Ms.add ⟨0, 0, 0⟩).b, .int .i64 ((preD p 1).foldl Ms.add ⟨0, 0, 0⟩).c, .agg [.int .i64 0, .int .i64 0]]) [] := by
 obtain ⟨c1, c2, c3⟩ := check_steps hc
 have h1 := Check_calculus u p hp
 rw [check_zero' hc] at h1
 have h2 := each_cut p hp c3 (by rw [← List.length_map (f := (·.1)), c1]; omega)
 unfold msS at h2
 generalize (preD p 1).foldl Ms.add ⟨0, 0, 0⟩ = M at *
 refine fi37.op ?_
 ((refine Sg.h ?_); try repeat' ((first | (with_reducible first | refine brA ?_ | refine brE fun _ => ?_ | (refine spl ⟨?_, ?_⟩ <;> intro _)) | refine clo h1 ?_) <;> ((try simp -implicitDefEqProofs); (try simp -implicitDefEqProofs (disch := first | assumption | (try simp only [lens]); omega -splitDisjunctions)))))
 refine CL.sub [1, 2, 3] (hc := by simpa using h2) ?_
 ((refine Sg.h ?_); try repeat' ((first | (with_reducible first | refine brA ?_ | refine brE fun _ => ?_ | (refine spl ⟨?_, ?_⟩ <;> intro _))) <;> ((try simp -implicitDefEqProofs); (try simp -implicitDefEqProofs (disch := first | assumption | (try simp only [lens]); omega -splitDisjunctions)))))
theorem Measure_fault (u : Bool) (p : Pf) (hp : Szs p) (hc : ¬ (checkF u p).1 = 0) : CallOK Try.prog 37 [.agg (prf p), .bool u] [] (.tuple [.int .i64 0, .int .i64 0, .int .i64 0, .agg [.int .i64 (checkF u p).1, .int .i64 (checkF u p).2]]) [] := by
 have h1 := Check_calculus u p hp
 generalize checkF u p = V at *
 refine fi37.op ?_
 ((refine Sg.h ?_); try repeat' ((first | (with_reducible first | refine brA ?_ | refine brE fun _ => ?_ | (refine spl ⟨?_, ?_⟩ <;> intro _)) | refine clo h1 ?_) <;> ((try simp -implicitDefEqProofs [hc]); (try simp -implicitDefEqProofs (disch := first | assumption | (try simp only [lens]); omega -splitDisjunctions) [hc]))))
def x35 : XC := .seq (.reg [⟨some 0,.assign (.const (.bool false)),none⟩]) (.seq (.reg [⟨some 6,.call ⟨.value (.func 84),#[],#[]⟩,none⟩,⟨some 7,.call ⟨.value (.func 37),#[.tmp 6,.const (.bool false)],#[64,4]⟩,none⟩,⟨some 5,.move (.tmp 7),none⟩,⟨some 8,.extract (.tmp 5) 0,none⟩,⟨some 9,.extract (.tmp 5) 1,none⟩,⟨some 10,.extract (.tmp 5) 2,none⟩,⟨some 11,.extract (.tmp 5) 3,none⟩,⟨some 4,.alloc 33,none⟩,⟨some 1,.assign (.tmp 8),none⟩,⟨some 2,.assign (.tmp 9),none⟩,⟨some 3,.assign (.tmp 10),none⟩,⟨none,.store 33 (.tmp 4) (.tmp 11),none⟩]) (.seq (.reg [⟨some 12,.fieldAddr 33 (.tmp 4) 0,none⟩,⟨some 13,.load 3 (.tmp 12),none⟩,⟨some 14,.binOp .eql 3 (.tmp 13) (.const (.int .i64 0)) 3,none⟩,⟨some 15,.move (.tmp 14),none⟩,⟨some 16,.move (.tmp 1),some (some 15,true)⟩,⟨some 17,.binOp .eql 3 (.tmp 16) (.const (.int .i64 3)) 3,some (some 15,true)⟩,⟨some 18,.pick (.tmp 15) (.tmp 17) (.const (.bool false)),none⟩,⟨some 19,.move (.tmp 18),none⟩,⟨some 20,.move (.tmp 2),some (some 19,true)⟩,⟨some 21,.binOp .eql 3 (.tmp 20) (.const (.int .i64 3)) 3,some (some 19,true)⟩,⟨some 22,.pick (.tmp 19) (.tmp 21) (.const (.bool false)),none⟩,⟨some 23,.move (.tmp 22),none⟩,⟨some 24,.move (.tmp 3),some (some 23,true)⟩,⟨some 25,.binOp .eql 3 (.tmp 24) (.const (.int .i64 0)) 3,some (some 23,true)⟩,⟨some 26,.pick (.tmp 23) (.tmp 25) (.const (.bool false)),none⟩,⟨some 0,.assign (.tmp 26),none⟩]) .ret))
@[simp] theorem x35_s {C e s K} : type_of% (@X_at C e s K _ _ x35.eq_1) := X_at x35.eq_1
def an35 : Ann := ⟨[], [], []⟩
theorem fi35 : FI Try.prog 35 (cxA an35) x35 [.tmp 0] Try.f35 := fiA Try.func35 mixed
theorem cutBegun_law : CallOK Try.prog 35 [] [] (.bool true) [] := by
 have h1 := middle_law
 have hsz : Szs middleP := .mk ⟨by decide, by decide⟩ (fun k hk => by
  rw [List.mem_singleton.1 hk]
  exact .mk ⟨by decide, by decide⟩ (fun k hk => by
   rw [List.mem_singleton.1 hk]
   exact .mk ⟨by decide, by decide⟩ (fun k hk => nomatch hk) (by decide)) (by decide)) (by decide)
 have h2 := Measure_ok false middleP hsz (by rw [mid_false])
 have e : (preD middleP 1).foldl Ms.add ⟨0, 0, 0⟩ = ⟨3, 3, 0⟩ := by kernel_rfl
 rw [e] at h2
 generalize middleP = M at *
 refine fi35.op ?_
 ((refine Sg.h ?_); try repeat' ((first | (with_reducible first | refine brA ?_ | refine brE fun _ => ?_ | (refine spl ⟨?_, ?_⟩ <;> intro _)) | refine clo h1 ?_ | refine clo h2 ?_) <;> ((try simp -implicitDefEqProofs); (try simp -implicitDefEqProofs (disch := first | assumption | (try simp only [lens]); omega -splitDisjunctions)))))
end Go.Proofs.Ytkadceiolddmhaa
namespace Go.Proofs.Ytkadceiolddmhaa
open Go Go.Pv
theorem withinF_count : ∀ {a b : List Fm}, withinF a b = true ↔ ∀ x, a.count x ≤ b.count x := by
 intro a
 induction a with
 | nil => intro b; simp [withinF]
 | cons f a ih =>
  intro b
  rw [withinF, Bool.and_eq_true, hasF_iff, ih]
  constructor
  ·rintro ⟨hf, h⟩ x
   have := h x
   have h1 := List.count_pos_iff.2 hf
   rw [List.count_erase] at this
   rw [List.count_cons]
   by_cases e : f = x
   ·subst e; simp at this ⊢; omega
   ·have e1 : (f == x) = false := by simpa using e
    simp [e1] at this ⊢; omega
  ·intro h
   have hf := h f
   rw [List.count_cons_self] at hf
   refine ⟨List.count_pos_iff.1 (by omega), fun x => ?_⟩
   have := h x
   rw [List.count_cons] at this
   rw [List.count_erase]
   by_cases e : f = x
   ·subst e; simp at this ⊢; omega
   ·have e1 : (f == x) = false := by simpa using e
    simp [e1] at this ⊢; omega
noncomputable def noMoreB (a b : List Fm) : Bool := a.all fun x => decide (a.count x ≤ b.count x)
theorem noMoreB_eq (a b : List Fm) : noMoreB a b = withinF a b := by
 rw [Bool.eq_iff_iff, withinF_count]
 unfold noMoreB
 rw [List.all_eq_true]
 constructor
 ·intro h x
  by_cases hx : x ∈ a
  ·simpa using h x hx
  ·rw [List.count_eq_zero.2 hx]; exact Nat.zero_le _
 ·intro h x _
  simpa using h x
end Go.Proofs.Ytkadceiolddmhaa
