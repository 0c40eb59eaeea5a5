import Derived.Test.YtkadceiolddmhaaCCcW
import Derived.Test.YtkadceiolddmhaaCCcZ
import Derived.Test.YtkadceiolddmhaaCPvQg
set_option linter.unusedVariables false
set_option linter.unusedSimpArgs false
set_option maxRecDepth 100000
set_option maxHeartbeats 4000000
namespace Go.Proofs.Ytkadceiolddmhaa
open Go Go.Pv
def cutNm : ByteArray := ⟨#[99, 117, 116]⟩
structure Ms where
 a : Int
 b : Int
 c : Int
def lenF (f : Fm) : Int := ((nodesGo 200 200 [f]).length : Int)
def Ms.add (m : Ms) (x : Pf × Int) : Ms := ⟨m.a + 1, max m.b x.2, if x.1.rule = cutNm then max m.c (lenF x.1.f) else m.c⟩
theorem lenF_le (f : Fm) : 0 ≤ lenF f ∧ lenF f ≤ 200 := ⟨Int.natCast_nonneg _, by have := nodesGo_len 200 200 [f]; unfold lenF; omega⟩
def msS (m : Ms) : Store := [.rows 1 [[.int .i64 m.a]], .rows 1 [[.int .i64 m.b]], .rows 1 [[.int .i64 m.c]]]
def msT (m : Ms) : Store := [.rows 1 [[.int .i64 m.a]], .rows 1 [[.int .i64 m.b]], .rows 1 [[.int .i64 m.c]], .rows 1 [[.fn (.func 87) [] [.ptr 0 0 0, .ptr 1 0 0, .ptr 2 0 0]]], .rows 1 [[.fn (.func 126) [] [.ptr 3 0 0, .ptr 4 0 0]]]]
def x87 : XC := .seq (.reg [⟨some 5,.box 64 (.tmp 0),none⟩,⟨some 7,.assign (.const (.bool false)),none⟩]) (.seq (.reg [⟨some 8,.load 3 (.tmp 2),none⟩,⟨some 9,.binOp .add 3 (.tmp 8) (.const (.int .i64 1)) 3,none⟩,⟨none,.store 3 (.tmp 2) (.tmp 9),none⟩]) (.seq (.reg [⟨some 10,.load 3 (.tmp 3),none⟩,⟨some 11,.move (.tmp 1),none⟩,⟨some 12,.call ⟨.builtin .max,#[.tmp 10,.tmp 11],#[3,3]⟩,none⟩,⟨none,.store 3 (.tmp 3) (.tmp 12),none⟩]) (.seq (.seq (.reg [⟨some 13,.fieldAddr 64 (.tmp 5) 0,none⟩,⟨some 14,.load 9 (.tmp 13),none⟩,⟨some 15,.binOp .eql 9 (.tmp 14) (.const (.string ⟨#[99,117,116]⟩)) 9,none⟩]) (.cond (.tmp 15) (.drawn 4 [⟨some 16,.load 3 (.tmp 4),none⟩,⟨some 17,.fieldAddr 64 (.tmp 5) 1,none⟩,⟨some 18,.load 59 (.tmp 17),none⟩,⟨some 19,.call ⟨.value (.func 88),#[.tmp 18,.const (.int .i64 200)],#[59,3]⟩,none⟩,⟨some 20,.call ⟨.builtin .len,#[.tmp 19],#[57]⟩,none⟩,⟨some 21,.call ⟨.builtin .max,#[.tmp 16,.tmp 20],#[3,3]⟩,none⟩,⟨none,.store 3 (.tmp 4) (.tmp 21),none⟩]) .skip)) (.seq (.reg [⟨some 7,.assign (.const (.bool true)),none⟩]) .ret))))
@[simp] theorem x87_s {C e s K} : type_of% (@X_at C e s K _ _ x87.eq_1) := X_at x87.eq_1
def an87 : Ann := ⟨[(4, .mix 5)], [], []⟩
@[simp] theorem an87_a : an87.clsOf 4 = .mix 5 ∧ an87.frzOf 4 = [] := ⟨rfl, rfl⟩
theorem fi87 : FI Try.prog 87 (cxA an87) x87 [.tmp 7] Try.f87 := fiA Try.func87 mixed
theorem Measure1_cut (q : Pf) (d : Int) (m : Ms) (ha : 0 ≤ m.a ∧ m.a ≤ 1000000) : CallOK Try.prog 87 [.agg (prf q), .int .i64 d, .ptr 0 0 0, .ptr 1 0 0, .ptr 2 0 0] (msS m) (.bool true) (msS (m.add (q, d))) := by
 refine fi87.og ?_
 unfold Ms.add msS
 have hn := nodes_formula q.f 200 (by decide) []
 have hl := lenF_le q.f
 unfold cutNm
 unfold lenF at hl ⊢
 generalize nodesGo 200 200 [q.f] = L at *
 obtain ⟨a, b, c⟩ := m
 dsimp only at ha ⊢
 by_cases hr : q.rule = ⟨#[99, 117, 116]⟩
 ·((refine Sg.h ?_); try repeat' ((first | (with_reducible first | refine brA ?_ | refine brE fun _ => ?_ | (refine spl ⟨?_, ?_⟩ <;> intro _)) | refine clo hn ?_) <;> ((try simp -implicitDefEqProofs [hr]); (try simp -implicitDefEqProofs (disch := first | assumption | (try simp only [lens]); omega -splitDisjunctions) [hr]))))
 ·((refine Sg.h ?_); try repeat' ((first | (with_reducible first | refine brA ?_ | refine brE fun _ => ?_ | (refine spl ⟨?_, ?_⟩ <;> intro _))) <;> ((try simp -implicitDefEqProofs [hr]); (try simp -implicitDefEqProofs (disch := first | assumption | (try simp only [lens]); omega -splitDisjunctions) [hr]))))
theorem foldl_add_a : ∀ (L : List (Pf × Int)) (m : Ms), (L.foldl Ms.add m).a = m.a + L.length
 | [], m => by simp
 | x :: r, m => by
  rw [List.foldl_cons, foldl_add_a r]
  show m.a + 1 + (r.length : Int) = _
  rw [List.length_cons]; omega
def x126_L0 : XC := .seq (.reg [⟨some 18,.binOp .lss 3 (.tmp 17) (.tmp 16) 3,none⟩]) (.seq (.cond (.tmp 18) .skip (.exit 0)) (.seq (.block 1 (.seq (.reg [⟨some 19,.indexAddr 62 (.tmp 15) (.tmp 17),none⟩,⟨some 20,.load 64 (.tmp 19),none⟩,⟨some 8,.alloc 64,none⟩,⟨none,.store 64 (.tmp 8) (.tmp 20),none⟩]) (.seq (.reg [⟨some 21,.load 65 (.tmp 3),none⟩,⟨some 22,.load 64 (.tmp 8),none⟩,⟨some 23,.move (.tmp 1),none⟩,⟨some 24,.binOp .add 3 (.tmp 23) (.const (.int .i64 1)) 3,none⟩,⟨some 25,.call ⟨.value (.tmp 21),#[.tmp 22,.tmp 24],#[64,3]⟩,none⟩,⟨some 26,.unOp .not 4 (.tmp 25),none⟩]) (.cond (.tmp 26) (.seq (.reg [⟨some 6,.assign (.const (.bool false)),none⟩]) .ret) .skip)))) (.reg [⟨some 27,.binOp .add 3 (.tmp 17) (.const (.int .i64 1)) 3,none⟩,⟨some 17,.move (.tmp 27),none⟩])))
def x126 : XC := .seq (.reg [⟨some 4,.box 64 (.tmp 0),none⟩,⟨some 6,.assign (.const (.bool false)),none⟩]) (.seq (.seq (.reg [⟨some 9,.load 65 (.tmp 2),none⟩,⟨some 10,.load 64 (.tmp 4),none⟩,⟨some 11,.move (.tmp 1),none⟩,⟨some 12,.call ⟨.value (.tmp 9),#[.tmp 10,.tmp 11],#[64,3]⟩,none⟩,⟨some 13,.unOp .not 4 (.tmp 12),none⟩]) (.cond (.tmp 13) (.seq (.reg [⟨some 6,.assign (.const (.bool false)),none⟩]) .ret) .skip)) (.seq (.seq (.reg [⟨some 14,.fieldAddr 64 (.tmp 4) 3,none⟩,⟨some 15,.load 62 (.tmp 14),none⟩,⟨some 16,.call ⟨.builtin .len,#[.tmp 15],#[62]⟩,none⟩,⟨some 17,.move (.const (.int .i64 0)),none⟩]) (.bloop 0 x126_L0)) (.seq (.reg [⟨some 6,.assign (.const (.bool true)),none⟩]) .ret)))
@[simp] theorem x126_s {C e s K} : type_of% (@X_at C e s K _ _ x126_L0.eq_1) ∧ type_of% (@X_at C e s K _ _ x126.eq_1) := ⟨X_at x126_L0.eq_1, X_at x126.eq_1⟩
def an126 : Ann := ⟨[], [(0, [], [1, 3, 15, 16, 17], [6])], []⟩
@[simp] theorem an126_a : an126.loopOf 0 = ([], [1, 3, 15, 16, 17], [6]) := rfl
theorem fi126 : FI Try.prog 126 (cxA an126) x126 [.tmp 6] Try.f126 := fiA Try.func126 mixed
theorem each1_cut (p : Pf) (hp : Szs p) : ∀ (d : Int) (m : Ms), 0 ≤ d → (∀ x ∈ preD p d, x.2 ≤ 400) → 0 ≤ m.a → m.a + (preD p d).length ≤ 1000000 →
  CallOK Try.prog 126 [.agg (prf p), .int .i64 d, .ptr 3 0 0, .ptr 4 0 0] (msT m) (.bool true) (msT ((preD p d).foldl Ms.add m)) := by
 induction p using Pf.ind with
 | h p ih =>
  intro d m hd0 hx ha hal
  have hkl := hp.len
  have hd : d ≤ 400 := hx (p, d) (by rw [preD_eq]; exact List.mem_cons_self)
  have h1 := Measure1_cut p d m ⟨ha, by omega⟩
  refine fi126.og ?_
  rw [preD_eq, if_pos (by omega)] at hx hal ⊢
  rw [List.foldl_cons]
  have ha1 : (m.add (p, d)).a = m.a + 1 := rfl
  generalize m.add (p, d) = m1 at *
  rw [List.length_cons] at hal
  unfold msT msS at *
  ((refine Sg.h ?_); try repeat' ((first | (with_reducible first | refine brA ?_ | refine brE fun _ => ?_ | (refine spl ⟨?_, ?_⟩ <;> intro _))) <;> ((try simp -implicitDefEqProofs); (try simp -implicitDefEqProofs (disch := first | assumption | (try simp only [lens]); omega -splitDisjunctions)))))
  refine CL.sub [0, 1, 2] (hc := by simpa using h1) ?_
  ((refine Sg.h ?_); try repeat' ((first | (with_reducible first | refine brA ?_ | refine brE fun _ => ?_ | (refine spl ⟨?_, ?_⟩ <;> intro _))) <;> ((try simp -implicitDefEqProofs); (try simp -implicitDefEqProofs (disch := first | assumption | (try simp only [lens]); omega -splitDisjunctions)))))
  refine W_of fun Q hQ => ?_
  have main : ∀ r i (m2 : Ms), i + r = p.kids.length → m2 = (preDs (p.kids.take i) (d + 1)).foldl Ms.add m1 → m2.a = m1.a + (preDs (p.kids.take i) (d + 1)).length → Q [(1, .int .i64 d), (3, .ptr 4 0 0), (15, .list (p.kids.map prf)), (16, .int .i64 (p.kids.length : Int)), (17, .int .i64 (i : Int))]
    [.rows 1 [[.int .i64 m2.a]], .rows 1 [[.int .i64 m2.b]], .rows 1 [[.int .i64 m2.c]], .rows 1 [[.fn (.func 87) [] [.ptr 0 0 0, .ptr 1 0 0, .ptr 2 0 0]]], .rows 1 [[.fn (.func 126) [] [.ptr 3 0 0, .ptr 4 0 0]]]] := by
   intro r
   induction r with
   | zero =>
    intro i m2 hi hm hma
    obtain rfl : i = p.kids.length := by omega
    rw [List.take_length] at hm
    apply hQ
    clear hQ
    rw [← hm]
    ((refine Sg.h ?_); try repeat' ((first | (with_reducible first | refine brA ?_ | refine brE fun _ => ?_ | (refine spl ⟨?_, ?_⟩ <;> intro _))) <;> ((try simp -implicitDefEqProofs); (try simp -implicitDefEqProofs (disch := first | assumption | (try simp only [lens]); omega -splitDisjunctions)))))
   | succ r ihr =>
    intro i m2 hi hm hma
    have hil : i < p.kids.length := by omega
    have hks : preDs p.kids (d + 1) = preDs (p.kids.take i) (d + 1) ++ (preD p.kids[i] (d + 1) ++ preDs (p.kids.drop (i + 1)) (d + 1)) := by
     rw [← preDs, ← List.drop_eq_getElem_cons hil, preDs_eq, preDs_eq, preDs_eq, ← List.flatMap_append, List.take_append_drop]
    rw [hks] at hal
    simp only [List.length_append] at hal
    have hc := ih p.kids[i] (List.getElem_mem hil) (hp.kid (List.getElem_mem hil)) (d + 1) m2 (by omega) (fun x h => hx x (List.mem_cons_of_mem _ (by rw [hks]; simp [h]))) (by omega) (by omega)
    have ihr := ihr (i + 1) ((preD p.kids[i] (d + 1)).foldl Ms.add m2) (by omega) (by rw [take_snoc hil, preDs_snoc, List.foldl_append, hm]) (by rw [foldl_add_a, take_snoc hil, preDs_snoc, List.length_append]; omega)
    unfold msT at hc
    generalize (preD p.kids[i] (d + 1)).foldl Ms.add m2 = m3 at *
    clear hm hx hal hma hks
    apply hQ
    clear hQ
    ((refine Sg.h ?_); try repeat' ((first | (with_reducible first | refine brA ?_ | refine brE fun _ => ?_ | (refine spl ⟨?_, ?_⟩ <;> intro _))) <;> ((try simp -implicitDefEqProofs [hil, hd]); (try simp -implicitDefEqProofs (disch := first | assumption | (try simp only [lens]); omega -splitDisjunctions) [hil, hd]))))
    refine CL.sub [0, 1, 2, 3, 4] (hc := by simpa using hc) ?_
    ((refine Sg.h ?_); try repeat' ((first | (with_reducible first | refine brA ?_ | refine brE fun _ => ?_ | (refine spl ⟨?_, ?_⟩ <;> intro _))) <;> ((try simp -implicitDefEqProofs); (try simp -implicitDefEqProofs (disch := first | assumption | (try simp only [lens]); omega -splitDisjunctions)))))
    all_goals first | exact ihr | (refine at2 ihr ?_ ?_ <;> simp; done) | (exfalso; first | omega | (simp_all; done) | (simp_all; omega))
  all_goals first | exact main _ 0 m1 (Nat.zero_add _) (by simp [preDs]) (by simp [preDs]) | (refine at2 main _ 0 m1 (Nat.zero_add _) (by simp [preDs]) (by simp [preDs]) ?_ ?_ <;> simp; done) | (exfalso; first | omega | (simp_all; done) | (simp_all; omega))
end Go.Proofs.Ytkadceiolddmhaa
namespace Go.Proofs.Ytkadceiolddmhaa
open Go Go.Pv
theorem nodes_plain {f : Fm} (h : (plainF f).1 = 0) : nodesGo 200 200 [f] = pre f := by
 rw [nodesGo_take 200 200 [f] (by omega), pres_cons, pres_nil, List.append_nil, List.take_of_length_le ((plainF_iff f).1 h).2]
theorem cut_plain {u : Bool} {p : Pf} (hc : (checkF u p).1 = 0) : ∀ x ∈ preD p 1, x.1.rule = ⟨#[99, 117, 116]⟩ → (plainF x.1.f).1 = 0 := by
 intro x hx hr
 have hs : x.1 ∈ stepsP p := by rw [← (check_steps hc).1]; exact List.mem_map.2 ⟨x, hx, rfl⟩
 exact (fine_steps (Fine.of_look p 0 1 hc) x.1 hs).2 (by rw [hr]; decide)
theorem check_zero' {u : Bool} {p : Pf} (h : (checkF u p).1 = 0) : checkF u p = (0, 0) := by
 rw [check_scan] at h ⊢
 have key : ∀ (L : List (Pf × Int)) (n : Nat), (scanF u L n).2.1 = 0 → (scanF u L n).2 = (0, 0) := by
  intro L
  induction L with
  | nil => intro n _; rfl
  | cons x r ih =>
   intro n h
   rw [scanF] at h ⊢
   split at h
   ·cases h
   ·rename_i h1
    rw [if_neg h1]
    split at h
    ·cases h
    ·rename_i h2
     rw [if_neg h2]
     split at h
     ·rename_i h3; exact absurd h h3
     ·rename_i h3
      rw [if_neg h3]
      exact ih _ h
 exact key _ _ h
def x86 : XC := .seq (.reg [⟨some 2,.box 64 (.tmp 0),none⟩,⟨some 3,.box 65 (.tmp 1),none⟩]) (.seq (.reg [⟨some 4,.alloc 65,none⟩]) (.seq (.reg [⟨some 5,.makeFunc (.func 126) #[] #[.tmp 3,.tmp 4],none⟩,⟨none,.store 65 (.tmp 4) (.tmp 5),none⟩]) (.reg [⟨some 6,.load 65 (.tmp 4),none⟩,⟨some 7,.load 64 (.tmp 2),none⟩,⟨some 8,.call ⟨.value (.tmp 6),#[.tmp 7,.const (.int .i64 1)],#[64,3]⟩,none⟩])))
@[simp] theorem x86_s {C e s K} : type_of% (@X_at C e s K _ _ x86.eq_1) := X_at x86.eq_1
def an86 : Ann := ⟨[], [], []⟩
theorem fi86 : FI Try.prog 86 (cxA an86) x86 [] Try.f86 := fiA Try.func86 mixed
theorem each_cut (p : Pf) (hp : Szs p) (hd : ∀ x ∈ preD p 1, x.2 ≤ 400) (hl : (preD p 1).length ≤ 1000000) : CallOK Try.prog 86 [.agg (prf p), .fn (.func 87) [] [.ptr 0 0 0, .ptr 1 0 0, .ptr 2 0 0]] (msS ⟨0, 0, 0⟩) (.tuple []) (msS ((preD p 1).foldl Ms.add ⟨0, 0, 0⟩)) := by
 have h := each1_cut p hp 1 ⟨0, 0, 0⟩ (by decide) hd (by decide) (by dsimp only; omega)
 generalize (preD p 1).foldl Ms.add ⟨0, 0, 0⟩ = M at *
 unfold msT at h
 unfold msS
 refine fi86.og ?_
 ((refine Sg.h ?_); try repeat' ((first | (with_reducible first | refine brA ?_ | refine brE fun _ => ?_ | (refine spl ⟨?_, ?_⟩ <;> intro _))) <;> ((try simp -implicitDefEqProofs); (try simp -implicitDefEqProofs (disch := first | assumption | (try simp only [lens]); omega -splitDisjunctions)))))
 refine CL.sub [0, 1, 2, 4, 5] (hc := by simpa using h) ?_
 ((refine Sg.h ?_); try repeat' ((first | (with_reducible first | refine brA ?_ | refine brE fun _ => ?_ | (refine spl ⟨?_, ?_⟩ <;> intro _))) <;> ((try simp -implicitDefEqProofs); (try simp -implicitDefEqProofs (disch := first | assumption | (try simp only [lens]); omega -splitDisjunctions)))))
def x37 : XC := .seq (.reg [⟨some 2,.box 64 (.tmp 0),none⟩,⟨some 4,.alloc 3,none⟩,⟨some 5,.alloc 3,none⟩,⟨some 6,.alloc 3,none⟩,⟨some 7,.alloc 33,none⟩]) (.seq (.seq (.reg [⟨some 9,.load 64 (.tmp 2),none⟩,⟨some 10,.move (.tmp 1),none⟩,⟨some 11,.call ⟨.value (.func 85),#[.tmp 9,.tmp 10],#[64,4]⟩,none⟩,⟨some 8,.alloc 33,none⟩,⟨none,.store 33 (.tmp 8) (.tmp 11),none⟩]) (.seq (.reg [⟨some 12,.fieldAddr 33 (.tmp 8) 0,none⟩,⟨some 13,.load 3 (.tmp 12),none⟩,⟨some 14,.binOp .neq 3 (.tmp 13) (.const (.int .i64 0)) 3,none⟩]) (.cond (.tmp 14) (.seq (.drawn 3 [⟨some 15,.load 33 (.tmp 8),none⟩,⟨none,.store 3 (.tmp 4) (.const (.int .i64 0)),none⟩,⟨none,.store 3 (.tmp 5) (.const (.int .i64 0)),none⟩,⟨none,.store 3 (.tmp 6) (.const (.int .i64 0)),none⟩,⟨none,.store 33 (.tmp 7) (.tmp 15),none⟩]) .ret) .skip))) (.seq (.reg [⟨some 16,.load 64 (.tmp 2),none⟩,⟨some 17,.makeFunc (.func 87) #[] #[.tmp 4,.tmp 5,.tmp 6],none⟩,⟨some 18,.call ⟨.value (.func 86),#[.tmp 16,.tmp 17],#[64,65]⟩,none⟩]) (.seq (.drawn 5 [⟨some 19,.load 3 (.tmp 4),none⟩,⟨some 20,.load 3 (.tmp 5),none⟩,⟨some 21,.load 3 (.tmp 6),none⟩,⟨some 22,.load 33 (.tmp 7),none⟩,⟨none,.store 3 (.tmp 4) (.tmp 19),none⟩,⟨none,.store 3 (.tmp 5) (.tmp 20),none⟩,⟨none,.store 3 (.tmp 6) (.tmp 21),none⟩,⟨none,.store 33 (.tmp 7) (.tmp 22),none⟩]) .ret)))
@[simp] theorem x37_s {C e s K} : type_of% (@X_at C e s K _ _ x37.eq_1) := X_at x37.eq_1
def an37 : Ann := ⟨[(3, .tree (.op 0 (.op 1 (.ck 0 (.op 2 (.ck 0 (.op 3 (.ck 0 (.op 4 .fin))))))))), (5, .tree (.op 0 (.op 1 (.op 2 (.op 3 (.op 4 (.ck 1 (.ck 2 (.ck 3 (.op 5 (.ck 2 (.ck 3 (.op 6 (.ck 3 (.op 7 .fin)))))))))))))))], [], []⟩
@[simp] theorem an37_a : an37.clsOf 3 = .tree (.op 0 (.op 1 (.ck 0 (.op 2 (.ck 0 (.op 3 (.ck 0 (.op 4 .fin)))))))) ∧ an37.clsOf 5 = .tree (.op 0 (.op 1 (.op 2 (.op 3 (.op 4 (.ck 1 (.ck 2 (.ck 3 (.op 5 (.ck 2 (.ck 3 (.op 6 (.ck 3 (.op 7 .fin)))))))))))))) ∧ an37.frzOf 3 = [] ∧ an37.frzOf 5 = [] := ⟨rfl, rfl, rfl, rfl⟩
theorem fi37 : FI Try.prog 37 (cxA an37) x37 [.cell 4 3, .cell 5 3, .cell 6 3, .cell 7 33] Try.f37 := fiA Try.func37 mixed
theorem Measure_ok (u : Bool) (p : Pf) (hp : Szs p) (hc : (checkF u p).1 = 0) : CallOK Try.prog 37 [.agg (prf p), .bool u] [] (.tuple [.int .i64 ((preD p 1).foldl Ms.add ⟨0, 0, 0⟩).a, .int .i64 ((preD p 1).foldl Ms.add ⟨0, 0, 0⟩).b, .int .i64 ((preD p 1).foldl Ms.add ⟨0, 0, 0⟩).c, .agg [.int .i64 0, .int .i64 0]]) [] := by
 obtain ⟨c1, c2, c3⟩ := check_steps hc
 have h1 := Check_calculus u p hp
 rw [check_zero' hc] at h1
 have h2 := each_cut p hp c3 (by rw [← List.length_map (f := (·.1)), c1]; omega)
 unfold msS at h2
 generalize (preD p 1).foldl Ms.add ⟨0, 0, 0⟩ = M at *
 refine fi37.op ?_
 ((refine Sg.h ?_); try repeat' ((first | (with_reducible first | refine brA ?_ | refine brE fun _ => ?_ | (refine spl ⟨?_, ?_⟩ <;> intro _)) | refine clo h1 ?_) <;> ((try simp -implicitDefEqProofs); (try simp -implicitDefEqProofs (disch := first | assumption | (try simp only [lens]); omega -splitDisjunctions)))))
 refine CL.sub [1, 2, 3] (hc := by simpa using h2) ?_
 ((refine Sg.h ?_); try repeat' ((first | (with_reducible first | refine brA ?_ | refine brE fun _ => ?_ | (refine spl ⟨?_, ?_⟩ <;> intro _))) <;> ((try simp -implicitDefEqProofs); (try simp -implicitDefEqProofs (disch := first | assumption | (try simp only [lens]); omega -splitDisjunctions)))))
theorem Measure_fault (u : Bool) (p : Pf) (hp : Szs p) (hc : ¬ (checkF u p).1 = 0) : CallOK Try.prog 37 [.agg (prf p), .bool u] [] (.tuple [.int .i64 0, .int .i64 0, .int .i64 0, .agg [.int .i64 (checkF u p).1, .int .i64 (checkF u p).2]]) [] := by
 have h1 := Check_calculus u p hp
 generalize checkF u p = V at *
 refine fi37.op ?_
 ((refine Sg.h ?_); try repeat' ((first | (with_reducible first | refine brA ?_ | refine brE fun _ => ?_ | (refine spl ⟨?_, ?_⟩ <;> intro _)) | refine clo h1 ?_) <;> ((try simp -implicitDefEqProofs [hc]); (try simp -implicitDefEqProofs (disch := first | assumption | (try simp only [lens]); omega -splitDisjunctions) [hc]))))
def x35 : XC := .seq (.reg [⟨some 0,.assign (.const (.bool false)),none⟩]) (.seq (.reg [⟨some 6,.call ⟨.value (.func 84),#[],#[]⟩,none⟩,⟨some 7,.call ⟨.value (.func 37),#[.tmp 6,.const (.bool false)],#[64,4]⟩,none⟩,⟨some 5,.move (.tmp 7),none⟩,⟨some 8,.extract (.tmp 5) 0,none⟩,⟨some 9,.extract (.tmp 5) 1,none⟩,⟨some 10,.extract (.tmp 5) 2,none⟩,⟨some 11,.extract (.tmp 5) 3,none⟩,⟨some 4,.alloc 33,none⟩,⟨some 1,.assign (.tmp 8),none⟩,⟨some 2,.assign (.tmp 9),none⟩,⟨some 3,.assign (.tmp 10),none⟩,⟨none,.store 33 (.tmp 4) (.tmp 11),none⟩]) (.seq (.reg [⟨some 12,.fieldAddr 33 (.tmp 4) 0,none⟩,⟨some 13,.load 3 (.tmp 12),none⟩,⟨some 14,.binOp .eql 3 (.tmp 13) (.const (.int .i64 0)) 3,none⟩,⟨some 15,.move (.tmp 14),none⟩,⟨some 16,.move (.tmp 1),some (some 15,true)⟩,⟨some 17,.binOp .eql 3 (.tmp 16) (.const (.int .i64 3)) 3,some (some 15,true)⟩,⟨some 18,.pick (.tmp 15) (.tmp 17) (.const (.bool false)),none⟩,⟨some 19,.move (.tmp 18),none⟩,⟨some 20,.move (.tmp 2),some (some 19,true)⟩,⟨some 21,.binOp .eql 3 (.tmp 20) (.const (.int .i64 3)) 3,some (some 19,true)⟩,⟨some 22,.pick (.tmp 19) (.tmp 21) (.const (.bool false)),none⟩,⟨some 23,.move (.tmp 22),none⟩,⟨some 24,.move (.tmp 3),some (some 23,true)⟩,⟨some 25,.binOp .eql 3 (.tmp 24) (.const (.int .i64 0)) 3,some (some 23,true)⟩,⟨some 26,.pick (.tmp 23) (.tmp 25) (.const (.bool false)),none⟩,⟨some 0,.assign (.tmp 26),none⟩]) .ret))
@[simp] theorem x35_s {C e s K} : type_of% (@X_at C e s K _ _ x35.eq_1) := X_at x35.eq_1
def an35 : Ann := ⟨[], [], []⟩
theorem fi35 : FI Try.prog 35 (cxA an35) x35 [.tmp 0] Try.f35 := fiA Try.func35 mixed
theorem cutBegun_law : CallOK Try.prog 35 [] [] (.bool true) [] := by
 have h1 := middle_law
 have hsz : Szs middleP := .mk ⟨by decide, by decide⟩ (fun k hk => by
  rw [List.mem_singleton.1 hk]
  exact .mk ⟨by decide, by decide⟩ (fun k hk => by
   rw [List.mem_singleton.1 hk]
   exact .mk ⟨by decide, by decide⟩ (fun k hk => nomatch hk) (by decide)) (by decide)) (by decide)
 have h2 := Measure_ok false middleP hsz (by rw [mid_false])
 have e : (preD middleP 1).foldl Ms.add ⟨0, 0, 0⟩ = ⟨3, 3, 0⟩ := by kernel_rfl
 rw [e] at h2
 generalize middleP = M at *
 refine fi35.op ?_
 ((refine Sg.h ?_); try repeat' ((first | (with_reducible first | refine brA ?_ | refine brE fun _ => ?_ | (refine spl ⟨?_, ?_⟩ <;> intro _)) | refine clo h1 ?_ | refine clo h2 ?_) <;> ((try simp -implicitDefEqProofs); (try simp -implicitDefEqProofs (disch := first | assumption | (try simp only [lens]); omega -splitDisjunctions)))))
end Go.Proofs.Ytkadceiolddmhaa
namespace Go.Proofs.Ytkadceiolddmhaa
open Go Go.Pv
def Subs (R : Fm → List Fm → List Fm → List Prem × Bool) : Prop := ∀ (f : Fm) (l r : List Fm), Ar f → (R f l r).2 = true → f ∈ l ++ r ∧ ∀ q ∈ (R f l r).1, ∀ x ∈ q.1 ++ q.2, x ∈ l ++ r ∨ x ∈ f.kids
theorem subs_one {b : Bool} {f : Fm} {l r : List Fm} {ps : List Prem} (h1 : b = true → f ∈ l ++ r) (h2 : b = true → ∀ q ∈ ps, ∀ x ∈ q.1 ++ q.2, x ∈ l ++ r ∨ x ∈ f.kids) : (if b = true then (ps, true) else ([], false)).2 = true → f ∈ l ++ r ∧ ∀ q ∈ (if b = true then (ps, true) else ([], false)).1, ∀ x ∈ q.1 ++ q.2, x ∈ l ++ r ∨ x ∈ f.kids := by
 intro h
 cases b
 ·cases h
 ·exact ⟨h1 rfl, h2 rfl⟩
section
variable {f : Fm} {l r x : List Fm} {y : Fm}
theorem kid_k4 {n : Int} (hA : Ar f) (h : kindF f n x = true) (hn : n = 4) : f ∈ x ∧ kid f 0 ∈ f.kids := by
 subst hn
 rw [kindF_iff] at h
 obtain ⟨a, ha⟩ := hA.one h.1
 exact ⟨h.2, by simp [kid, ha]⟩
theorem kid_k {n : Int} (hA : Ar f) (h : kindF f n x = true) (hn : n = 5 ∨ n = 6 ∨ n = 7) : f ∈ x ∧ kid f 0 ∈ f.kids ∧ kid f 1 ∈ f.kids := by
 rw [kindF_iff] at h
 obtain ⟨a, b, ha⟩ := hA.two (by rw [h.1]; exact hn)
 exact ⟨h.2, by simp [kid, ha], by simp [kid, ha]⟩
end
theorem subs_side {k : Nat} (hk : k = 0 ∨ k = 1) : Subs (sideR k) := by
 intro f l r hA
 unfold sideR
 refine subs_one (fun h => by have := (kid_k hA h (by simp)).1; simp [this]) fun h q hq z hz => ?_
 obtain ⟨h1, h2, h3⟩ := kid_k hA h (by simp)
 rcases hk with rfl | rfl <;> simp only [List.mem_cons, List.not_mem_nil, or_false] at hq <;> subst hq <;> simp only [List.mem_append, List.mem_cons, List.not_mem_nil, or_false] at hz ⊢ <;> rcases hz with hz | rfl <;> simp_all
theorem subs_all {R : Fm → List Fm → List Fm → List Prem × Bool} (hR : R = axR ∨ R = trueR ∨ R = falseR ∨ R = andLR ∨ R = andRR ∨ R = orLR ∨ R = thenRR ∨ R = notRR ∨ R = contrLR ∨ R = orRR ∨ R = thenLR ∨ R = notLR ∨ R = contrRR ∨ R = thenIR ∨ R = notIR) : Subs R := by
 intro f l r hA
 have er : ∀ (x : List Fm) (y : Fm), y ∈ x.erase f → y ∈ x := fun _ _ => List.mem_of_mem_erase
 have k4 := fun (x : List Fm) (h : kindF f 4 x = true) => kid_k4 hA h rfl
 have k5 := fun (x : List Fm) (h : kindF f 5 x = true) => kid_k hA h (by simp)
 have k6 := fun (x : List Fm) (h : kindF f 6 x = true) => kid_k hA h (by simp)
 have k7 := fun (x : List Fm) (h : kindF f 7 x = true) => kid_k hA h (by simp)
 have kf : ∀ (n : Int) (x : List Fm), kindF f n x = true → f ∈ x := fun n x h => (kindF_iff.1 h).2
 have hf : ∀ (x : List Fm), hasF x f = true → f ∈ x := fun x h => hasF_iff.1 h
 rcases hR with h | h | h | h | h | h | h | h | h | h | h | h | h | h | h <;> subst h
 all_goals first | unfold axR | unfold trueR | unfold falseR | unfold andLR | unfold andRR | unfold orLR | unfold thenRR | unfold notRR | unfold contrLR | unfold orRR | unfold thenLR | unfold notLR | unfold contrRR | unfold thenIR | unfold notIR
 all_goals first
  | (intro h; simp only [Bool.and_eq_true] at h; refine ⟨?_, fun q hq => nomatch hq⟩; rw [List.mem_append]; grind)
  | (refine subs_one (fun h => by rw [List.mem_append]; grind) fun h q hq z hz => ?_; simp only [List.mem_cons, List.not_mem_nil, or_false] at hq; simp only [List.mem_append] at hz ⊢; grind)
theorem lookT_key {T : Tab} {a : ByteArray} {e : Ent} (h : lookT T a = some e) : ∃ p ∈ T, p.2 = e ∧ a = p.1 := by
 unfold lookT at h
 obtain ⟨p, h1, h2⟩ := Option.map_eq_some_iff.1 h
 exact ⟨p, List.mem_of_find?_eq_some h1, h2, by simpa using List.find?_some h1⟩
theorem ruleT_subs {u : Bool} {a : ByteArray} {e : Ent} (h : ruleT u a = some e) (hc : a ≠ ⟨#[99, 117, 116]⟩) : Subs e.R := by
 have key : ∀ T : Tab, (∀ p ∈ T, p.1 = ⟨#[99, 117, 116]⟩ ∨ Subs p.2.R) → ∀ e, lookT T a = some e → Subs e.R := by
  intro T hT e he
  obtain ⟨p, hp, rfl, ha⟩ := lookT_key he
  exact (hT p hp).resolve_left fun g => hc (ha.trans g)
 have hs : ∀ p ∈ sharedT, p.1 = ⟨#[99, 117, 116]⟩ ∨ Subs p.2.R := by
  intro p hp
  right
  refine subs_all ?_
  simp only [sharedT, List.mem_cons, List.not_mem_nil, or_false] at hp
  rcases hp with rfl | rfl | rfl | rfl | rfl | rfl | rfl | rfl | rfl <;> simp
 have hk : ∀ p ∈ classT, p.1 = ⟨#[99, 117, 116]⟩ ∨ Subs p.2.R := by
  intro p hp
  simp only [classT, List.mem_cons, List.not_mem_nil, or_false] at hp
  rcases hp with rfl | rfl | rfl | rfl | rfl
  all_goals first | (left; rfl) | (right; refine subs_all ?_; simp; done)
 have hi : ∀ p ∈ intuT, p.1 = ⟨#[99, 117, 116]⟩ ∨ Subs p.2.R := by
  intro p hp
  simp only [intuT, List.mem_cons, List.not_mem_nil, or_false] at hp
  rcases hp with rfl | rfl | rfl | rfl | rfl
  all_goals first | (left; rfl) | (right; exact subs_side (by simp)) | (right; refine subs_all ?_; simp; done)
 unfold ruleT at h
 split at h
 ·rename_i e' he
  cases h
  exact key _ hs _ he
 ·split at h
  ·exact key _ hi _ h
  ·exact key _ hk _ h
theorem mem_presI {x : Fm} : ∀ {l : List Fm}, x ∈ pres l ↔ ∃ g ∈ l, x ∈ pre g
 | [] => by rw [pres_nil]; simp
 | a :: r => by rw [pres_cons, List.mem_append, mem_presI]; simp
theorem pre_self (f : Fm) : f ∈ pre f := by rw [pre_eq]; exact List.mem_cons_self
theorem mem_pres_self {x : Fm} {l : List Fm} (h : x ∈ l) : x ∈ pres l := mem_presI.2 ⟨x, h, pre_self x⟩
theorem stepsP_mem {s p : Pf} : s ∈ stepsP p ↔ s = p ∨ ∃ k ∈ p.kids, s ∈ stepsP k := by
 rw [stepsP_eq, List.mem_cons, List.mem_flatMap]
theorem meetB_mem : ∀ {qs : List Prem} {ks : List Pf}, qs.length = ks.length → meetB qs ks = true → ∀ k ∈ ks, ∃ q ∈ qs, k.l.Perm q.1 ∧ k.r.Perm q.2
 | [], [], _, _, k, hk => nomatch hk
 | q :: qs, [], hl, _, _, _ => by simp at hl
 | [], k :: ks, hl, _, _, _ => by simp at hl
 | q :: qs, k :: ks, hl, h, x, hx => by
  rw [meetB, Bool.and_eq_true, Bool.and_eq_true, sameF_iff, sameF_iff] at h
  rcases List.mem_cons.1 hx with rfl | hx
  ·exact ⟨q, List.mem_cons_self, h.1.1, h.1.2⟩
  ·obtain ⟨q', hq, h'⟩ := meetB_mem (by simpa using hl) h.2 x hx
   exact ⟨q', List.mem_cons_of_mem _ hq, h'⟩
theorem fine_parts {u : Bool} {p : Pf} (h : Fine u p) : (∀ s ∈ stepsP p, s.rule ≠ ⟨#[99, 117, 116]⟩) → ∀ s ∈ stepsP p, (∀ x ∈ s.l ++ s.r, x ∈ pres (p.l ++ p.r)) ∧ (s.rule ≠ ⟨#[119, 101, 97, 107]⟩ → s.f ∈ pres (p.l ++ p.r)) := by
 induction h with
 | mk hs hi h hk ih =>
  rename_i p
  intro hc
  have key : (p.rule ≠ ⟨#[119, 101, 97, 107]⟩ → p.f ∈ p.l ++ p.r) ∧ ∀ k ∈ p.kids, ∀ x ∈ k.l ++ k.r, x ∈ p.l ++ p.r ∨ (p.f ∈ p.l ++ p.r ∧ x ∈ p.f.kids) := by
   unfold stepF at h
   split at h
   ·rename_i hw
    refine ⟨fun g => absurd hw g, ?_⟩
    split at h
    ·cases h
    ·split at h
     ·rename_i k hks
      split at h
      ·rename_i hw
       rw [Bool.and_eq_true] at hw
       intro k' hk' x hx
       rw [hks, List.mem_singleton] at hk'
       subst hk'
       left
       rw [List.mem_append] at hx ⊢
       exact hx.imp (within_mem hw.1) (within_mem hw.2)
      ·cases h
     ·cases h
   ·rename_i hw
    split at h
    ·cases h
    ·rename_i e he
     split at h
     ·cases h
     ·rename_i hp
      split at h
      ·cases h
      ·rename_i hb
       split at h
       ·cases h
       ·rename_i hl
        split at h
        ·rename_i hm
         have hA := Ar.of_plain (Classical.byContradiction hp)
         obtain ⟨h1, h2⟩ := ruleT_subs he (hc p (stepsP_mem.2 (.inl rfl))) p.f p.l p.r hA (by simpa using hb)
         refine ⟨fun _ => h1, fun k hk x hx => ?_⟩
         obtain ⟨q, hq, g1, g2⟩ := meetB_mem (by omega) hm k hk
         exact (h2 q hq x ((List.mem_append.2 ((List.mem_append.1 hx).imp g1.mem_iff.1 g2.mem_iff.1)))).imp id fun g => ⟨h1, g⟩
        ·cases h
  intro s hs
  rcases stepsP_mem.1 hs with rfl | ⟨k, hkk, hsk⟩
  ·exact ⟨fun x hx => mem_pres_self hx, fun g => mem_pres_self (key.1 g)⟩
  ·have hup : ∀ x, x ∈ pres (k.l ++ k.r) → x ∈ pres (p.l ++ p.r) := by
    intro x hx
    obtain ⟨g, hg, hxg⟩ := mem_presI.1 hx
    rcases key.2 k hkk g hg with h1 | ⟨h1, h2⟩
    ·exact mem_presI.2 ⟨g, h1, hxg⟩
    ·refine mem_presI.2 ⟨p.f, h1, ?_⟩
     rw [pre_eq]
     exact List.mem_cons_of_mem _ (pres_mem hxg _ h2)
   obtain ⟨a1, a2⟩ := ih k hkk (fun s hs => hc s (stepsP_mem.2 (.inr ⟨k, hkk, hs⟩))) s hsk
   exact ⟨fun x hx => hup x (a1 x hx), fun g => hup _ (a2 g)⟩
end Go.Proofs.Ytkadceiolddmhaa
namespace Go.Pv
open Go
theorem RetView.frz {m : Nat} (F : List Nat) (v : PV) (s : Store) : RetView m v s (frzV F s v) (s.mapIdx (frzO F s)) := by
 intro C pub σ w cv hC hs hr
 have her : ER pub σ ⟨1, []⟩ (envOf [(0, v)]) { tmps := #[cv], defers := [] } := by
  refine ⟨rfl, rfl, fun t => ?_⟩
  by_cases ht : t = 0
  ·subst ht; simpa [envOf] using hr
  ·have : envOf [(0, v)] t = .any := by simp [envOf, ht]
   rw [this]; exact .any
 obtain ⟨p, q, h1, h2⟩ := withFrz_view (m := m) F [(0, v)] C pub σ _ w ⟨1, []⟩ hC hs her
 exact ⟨p, q, h1, by simpa [withFrz, envOf, frzV] using h2.rel 0⟩
def OZ (F : List Nat) (m : Nat) (v : PV) (s' : Store) (v1 : PV) (s1 : Store) : Prop := gcFin m v s' (frzV F s1 v1) (s1.mapIdx (frzO F s1))
def ozFin (m : Nat) (v : PV) (s' : Store) (v1 : PV) (s1 : Store) : Prop := OZ (grow s1 64 ((refsN 4 v1).filter fun r => !r.2) []) m v s' v1 s1
@[simp] theorem ozFin_eq {m : Nat} {v v1 : PV} {s1 s' : Store} : ozFin m v s' v1 s1 = OZ (grow s1 64 ((refsN 4 v1).filter fun r => !r.2) []) m v s' v1 s1 := rfl
theorem frzV_nil {s : Store} {v : PV} : frzV [] s v = v := by unfold frzV; simp
theorem frzO_nil {s : Store} {i : Nat} {o : PObj} : frzO [] s i o = o := by
 unfold frzO
 have h : frzV [] s = id := by funext v; exact frzV_nil
 have h2 : List.map (frzV [] s) = id := by rw [h]; funext l; simp
 rw [if_neg (by simp)]
 cases o <;> simp [h, h2]
@[simp] theorem OZ_nil {m : Nat} {v v1 : PV} {s1 s' : Store} : OZ [] m v s' v1 s1 = gcFin m v s' v1 s1 := by
 unfold OZ
 have : s1.mapIdx (frzO [] s1) = s1 := by
  apply List.ext_getElem?
  intro i
  rw [List.getElem?_mapIdx]
  cases s1[i]? <;> simp [frzO_nil]
 rw [frzV_nil, this]
@[simp] theorem OZ_cons {i : Nat} {F : List Nat} {m : Nat} {v v1 : PV} {s1 s' : Store} : OZ (i :: F) m v s' v1 s1 = gcFin m v s' (frzV (i :: F) s1 v1) (s1.mapIdx (frzO (i :: F) s1)) := rfl
theorem ozFin_ret {m : Nat} {v v1 : PV} {s1 s' : Store} (h : ozFin m v s' v1 s1) : RetView m v1 s1 v s' := RetView.trans (RetView.frz _ _ _) (gcFin_ret h)
theorem FI.oz {P : Program} {F : FuncId} {C : Program → Nat → WC} {x : XC} {rs : List ResultVar} {fn : Func} (i : FI P F C x rs fn) {args : List PV} {v : PV} {s s' : Store} (h : X (C P s.length) x (argsA 0 args) s (.fin rs (ozFin s.length v s'))) (hl : Nat.ble args.length fn.ntmps = true := by exact rfl) : CallOK P F args s v s' :=
 FI.ops i _ (fun v1 s1 h => ozFin_ret h) h hl
section
variable {C : WC} {d : Option Tmp} {fid : FuncId} {vs : List PV} {e : AE} {s s2 : Store} {K : KS} {v : PV} {t : RT}
theorem CT.of [EnT C.P fid] (hc : CallOK C.P fid vs s v s2) (hk : TR C t (updA e d v) s2 K) : CT C d (some (fid, vs)) t e s K := ⟨fid, vs, v, s2, rfl, EnT.h, hc, hk⟩
theorem CT.sub [EnT C.P fid] (ρ : List Nat) (hc : CallOK C.P fid (vs.map (renN ρ 4)) (liveS ρ s ρ) v s2) (hk : TR C t (updA e d (upN (ρ ++ List.range' s.length (s2.length - ρ.length)) 4 v)) (backS ρ s s2) K)
  (hnd : ρ.Nodup := by simp) (hin : ∀ i ∈ ρ, i < s.length := by simp) (hlen : ρ.length ≤ s2.length := by simp) : CT C d (some (fid, vs)) t e s K := by
 refine ⟨fid, vs, _, _, rfl, EnT.h, CallOK.sub ρ hnd hin hlen ?_, hk⟩
 have : ∀ L : List Nat, liveS ρ s L = L.map fun i => renObj ρ ((s[i]?).getD .dead) := by
  intro L; induction L with
  | nil => rfl
  | cons i r ih => rw [liveS, ih]; rfl
 rwa [← this]
end
def killO (D : List Nat) (i : Nat) (o : PObj) : PObj := if i ∈ D then .dead else o
theorem RetView.kill {m : Nat} (D : List Nat) (v : PV) (s : Store) : RetView m v s v (s.mapIdx (killO D)) := by
 intro C pub σ w cv hC hs hr
 refine ⟨pub, σ, hs.sub (by simp) fun k o h hd => ?_, hr⟩
 rw [List.getElem?_mapIdx] at h
 cases hk : s[k]? with
 | none => rw [hk] at h; cases h
 | some o1 =>
  rw [hk] at h
  simp only [Option.map_some, Option.some.injEq] at h
  unfold killO at h
  split at h
  ·exact absurd h.symm hd
  ·rw [h]
def odFin (D : List Nat) (m : Nat) (v : PV) (s' : Store) (v1 : PV) (s1 : Store) : Prop := ozFin m v s' v1 (s1.mapIdx (killO D))
@[simp] theorem odFin_eq {D : List Nat} {m : Nat} {v v1 : PV} {s1 s' : Store} : odFin D m v s' v1 s1 = ozFin m v s' v1 (s1.mapIdx (killO D)) := rfl
@[simp] theorem killO_eq {D : List Nat} {i : Nat} {o : PObj} : killO D i o = if i ∈ D then .dead else o := rfl
theorem FI.od {P : Program} {F : FuncId} {C : Program → Nat → WC} {x : XC} {rs : List ResultVar} {fn : Func} (i : FI P F C x rs fn) (D : List Nat) {args : List PV} {v : PV} {s s' : Store} (h : X (C P s.length) x (argsA 0 args) s (.fin rs (odFin D s.length v s'))) (hl : Nat.ble args.length fn.ntmps = true := by exact rfl) : CallOK P F args s v s' :=
 FI.ops i _ (fun v1 s1 h => RetView.trans (RetView.kill D _ _) (ozFin_ret h)) h hl
end Go.Pv
