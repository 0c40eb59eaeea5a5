import Derived.Test.YtnoklmapofogeaaSCeD
import Derived.Test.YtnoklmapofogeaaSCcW
import Derived.Test.YtnoklmapofogeaaSCcZ
import Derived.Test.YtnoklmapofogeaaSCeB
import Derived.Test.YtnoklmapofogeaaSPvOz
set_option linter.unusedVariables false
set_option linter.unusedSimpArgs false
set_option maxRecDepth 100000
set_option maxHeartbeats 4000000
namespace Go.Proofs.Ytnoklmapofogeaa
open Go Go.Pv
theorem grow_classic : ∀ (k : Nat) (l r : List Fm) (d : Int) (n : Nat), szL l + szL r < k → (∀ f ∈ l, Pl f) → (∀ f ∈ r, Pl f) → 0 ≤ d → d ≤ 401 → l.length + r.length ≤ 1000 → n ≤ 20000 →
  CallOK Try.prog 87 [.ptr 0 0 0, .list (l.map frm), .list (r.map frm), .int .i64 d] [fndO 0 n none] (.tuple [.agg (rowO (growF k l r d n).ok), .bool (growF k l r d n).ok.isSome]) (fndO 1 (growF k l r d n).n (growF k l r d n).cnt :: fndT (growF k l r d n).cnt) := by
 intro k
 induction k with
 | zero => intro l r d n h; omega
 | succ k ih =>
  intro l r d n hs hl hr hd0 hd hlen hn
  by_cases h0 : 20000 < n + 1 ∨ 400 < d ∨ 60 < l.length + r.length
  ·have e : growF (k + 1) l r d n = ⟨none, n + 1, none⟩ := by rw [growF, if_pos h0]
   rw [e]
   exact grow_limit l r d n hn (by omega) (by omega) h0
  ·have h1 : ¬ 20000 < n + 1 := fun h => h0 (.inl h)
   have h2 : ¬ 400 < d := fun h => h0 (.inr (.inl h))
   have h3 : ¬ 60 < l.length + r.length := fun h => h0 (.inr (.inr h))
   cases he : endF l r with
   | some e =>
    have e1 : growF (k + 1) l r d n = ⟨some (.mk e.1 e.2 l r []), n + 1, none⟩ := by rw [growF, if_neg h0, he]
    rw [e1]
    exact grow_end l r d n hn h1 h2 h3 e he
   | none =>
    refine grow_step k l r d n hd0 hn h1 h2 h3 he (fun f hf => pl_ar (hl f hf)) (fun f hf => pl_ar (hr f hf)) (fun l r n => growF k l r (d + 1) n) ?_ (growF (k + 1) l r d n) ?_
    ·intro m hm q hq n hn
     have hmv := move_some (fun f hf => pl_ar (hl f hf)) (fun f hf => pl_ar (hr f hf)) hm
     obtain ⟨z1, z2⟩ := mv_size hmv q hq
     obtain ⟨p1, p2⟩ := mv_pl hmv hl hr q hq
     refine ⟨fun h => ?_, ih q.1 q.2 (d + 1) n (by omega) p1 p2 (by omega) (by omega) (by omega) hn⟩
     obtain ⟨p, hp⟩ := Option.isSome_iff_exists.1 h
     exact growF_n k q.1 q.2 (d + 1) n p hp
    ·rw [growF, if_neg h0, he]; rfl
def x124_T1 : XC := .seq (.reg [⟨some 26,.load 24 (.tmp 3),none⟩,⟨none,.store 24 (.tmp 2) (.tmp 26),none⟩]) .ret
def x124_L0 : XC := .seq (.reg [⟨some 15,.binOp .lss 3 (.tmp 14) (.tmp 13) 3,none⟩]) (.seq (.cond (.tmp 15) .skip (.exit 0)) (.seq (.block 1 (.seq (.reg [⟨some 16,.indexAddr 22 (.tmp 12) (.tmp 14),none⟩,⟨some 17,.load 24 (.tmp 16),none⟩,⟨some 5,.alloc 24,none⟩,⟨none,.store 24 (.tmp 5) (.tmp 17),none⟩]) (.drawn 5 [⟨some 18,.fieldAddr 24 (.tmp 3) 2,none⟩,⟨some 19,.load 22 (.tmp 18),none⟩,⟨some 20,.load 24 (.tmp 5),none⟩,⟨some 21,.call ⟨.value (.func 124),#[.tmp 20],#[24]⟩,none⟩,⟨some 22,.buildSlice 22 1 #[(0,.tmp 21)],none⟩,⟨some 23,.call ⟨.builtin .append,#[.tmp 19,.tmp 22],#[22,22]⟩,none⟩,⟨some 24,.fieldAddr 24 (.tmp 3) 2,none⟩,⟨none,.store 22 (.tmp 24) (.tmp 23),none⟩]))) (.reg [⟨some 25,.binOp .add 3 (.tmp 14) (.const (.int .i64 1)) 3,none⟩,⟨some 14,.move (.tmp 25),none⟩])))
def x124 : XC := .seq (.reg [⟨some 1,.box 24 (.tmp 0),none⟩,⟨some 2,.alloc 24,none⟩]) (.seq (.reg [⟨some 6,.fieldAddr 24 (.tmp 1) 0,none⟩,⟨some 7,.load 3 (.tmp 6),none⟩,⟨some 8,.fieldAddr 24 (.tmp 1) 1,none⟩,⟨some 9,.load 9 (.tmp 8),none⟩,⟨some 10,.build 24 #[(0,.tmp 7),(1,.tmp 9)],none⟩,⟨some 3,.alloc 24,none⟩,⟨none,.store 24 (.tmp 3) (.tmp 10),none⟩]) (.seq (.seq (.reg [⟨some 11,.fieldAddr 24 (.tmp 1) 2,none⟩,⟨some 12,.load 22 (.tmp 11),none⟩,⟨some 13,.call ⟨.builtin .len,#[.tmp 12],#[22]⟩,none⟩,⟨some 14,.move (.const (.int .i64 0)),none⟩]) (.bloop 0 x124_L0)) (x124_T1)))
@[simp] theorem x124_s {C e s K} : type_of% (@X_at C e s K _ _ x124_T1.eq_1) ∧ type_of% (@X_at C e s K _ _ x124_L0.eq_1) ∧ type_of% (@X_at C e s K _ _ x124.eq_1) := ⟨X_at x124_T1.eq_1, X_at x124_L0.eq_1, X_at x124.eq_1⟩
def an124 : Ann := ⟨[(5, .mix 5)], [(0, [(3, some 2, 3)], [2, 3, 12, 13, 14], [2, 3])], []⟩
@[simp] theorem an124_a : an124.clsOf 5 = .mix 5 ∧ an124.frzOf 5 = [] ∧ an124.loopOf 0 = ([(3, some 2, 3)], [2, 3, 12, 13, 14], [2, 3]) := ⟨rfl, rfl, rfl⟩
theorem fi124 : FI Try.prog 124 (cxA an124) x124 [.cell 2 24] Try.f124 := fiA Try.func124 mixed
theorem Copy_formula (f : Fm) : ∀ d, vastB f d = false → CallOK Try.prog 124 [.agg (frm f)] [] (.agg (frm f)) [] := by
 induction f using Fm.ind with
 | h f ih =>
  intro d hv
  obtain ⟨hk, hv⟩ := vast_kids hv
  refine fi124.op ?_
  ((refine Sg.h ?_); try repeat' ((first | (with_reducible first | refine brA ?_ | refine brE fun _ => ?_ | (refine spl ⟨?_, ?_⟩ <;> intro _))) <;> ((try simp -implicitDefEqProofs); (try simp -implicitDefEqProofs (disch := first | assumption | (try simp only [lens]); omega -splitDisjunctions)))))
  refine W_of fun Q hQ => ?_
  have main : ∀ n i, i + n = f.kids.length → Q [(2, .ptr 0 0 0), (3, .ptr 1 0 0), (12, .list (f.kids.map frm)), (13, .int .i64 (f.kids.length : Int)), (14, .int .i64 (i : Int))] [.rows 3 [[.int .i64 0, .str ⟨#[]⟩, .nilsl]], .rows 3 [[.int .i64 f.kind, .str f.name, .sl 2 0 (f.kids.take i).length]], .rows 3 ((f.kids.take i).map frm)] := by
   intro n
   induction n with
   | zero =>
    intro i hi
    obtain rfl : i = f.kids.length := by omega
    rw [List.take_length]
    apply hQ
    clear hQ
    ((refine Sg.h ?_); try repeat' ((first | (with_reducible first | refine brA ?_ | refine brE fun _ => ?_ | (refine spl ⟨?_, ?_⟩ <;> intro _))) <;> ((try simp -implicitDefEqProofs); (try simp -implicitDefEqProofs (disch := first | assumption | (try simp only [lens]); omega -splitDisjunctions)))))
    all_goals rw [frm_eq]
   | succ n ihn =>
    intro i hi
    have hil : i < f.kids.length := by omega
    have ihn := ihn (i + 1) (by omega)
    have hc := ih f.kids[i] (List.getElem_mem hil) _ (hv _ (List.getElem_mem hil))
    have hlen : (f.kids.take i).length = i := by rw [List.length_take]; omega
    rw [take_snoc hil] at ihn
    generalize f.kids.take i = T at *
    apply hQ
    clear hQ
    ((refine Sg.h ?_); try repeat' ((first | (with_reducible first | refine brA ?_ | refine brE fun _ => ?_ | (refine spl ⟨?_, ?_⟩ <;> intro _)) | refine clo hc ?_) <;> ((try simp -implicitDefEqProofs [hil]); (try simp -implicitDefEqProofs (disch := first | assumption | (try simp only [lens]); omega -splitDisjunctions) [hil]))))
    all_goals first | exact ihn | (refine at2 ihn ?_ ?_ <;> simp; done) | (exfalso; first | omega | (simp_all; done) | (simp_all; omega))
  all_goals first | exact main _ 0 (Nat.zero_add _) | (refine at2 main _ 0 (Nat.zero_add _) ?_ ?_ <;> simp; done) | (exfalso; first | omega | (simp_all; done) | (simp_all; omega))
theorem fms_take {l : List Fm} : (l.map frm).take l.length = l.map frm := List.take_of_length_le (by simp)
def x88_T5 : XC := .seq (.reg [⟨some 67,.load 29 (.tmp 3),none⟩,⟨none,.store 29 (.tmp 2) (.tmp 67),none⟩]) .ret
def x88_L4 : XC := .seq (.reg [⟨some 56,.binOp .lss 3 (.tmp 55) (.tmp 54) 3,none⟩]) (.seq (.cond (.tmp 56) .skip (.exit 4)) (.seq (.block 5 (.seq (.reg [⟨some 57,.indexAddr 27 (.tmp 53) (.tmp 55),none⟩,⟨some 58,.load 29 (.tmp 57),none⟩,⟨some 9,.alloc 29,none⟩,⟨none,.store 29 (.tmp 9) (.tmp 58),none⟩]) (.drawn 15 [⟨some 59,.fieldAddr 29 (.tmp 3) 3,none⟩,⟨some 60,.load 27 (.tmp 59),none⟩,⟨some 61,.load 29 (.tmp 9),none⟩,⟨some 62,.call ⟨.value (.func 88),#[.tmp 61],#[29]⟩,none⟩,⟨some 63,.buildSlice 27 1 #[(0,.tmp 62)],none⟩,⟨some 64,.call ⟨.builtin .append,#[.tmp 60,.tmp 63],#[27,27]⟩,none⟩,⟨some 65,.fieldAddr 29 (.tmp 3) 3,none⟩,⟨none,.store 27 (.tmp 65) (.tmp 64),none⟩]))) (.reg [⟨some 66,.binOp .add 3 (.tmp 55) (.const (.int .i64 1)) 3,none⟩,⟨some 55,.move (.tmp 66),none⟩])))
def x88_T3 : XC := .seq (.seq (.reg [⟨some 52,.fieldAddr 29 (.tmp 1) 3,none⟩,⟨some 53,.load 27 (.tmp 52),none⟩,⟨some 54,.call ⟨.builtin .len,#[.tmp 53],#[27]⟩,none⟩,⟨some 55,.move (.const (.int .i64 0)),none⟩]) (.bloop 4 x88_L4)) (x88_T5)
def x88_L2 : XC := .seq (.reg [⟨some 39,.binOp .lss 3 (.tmp 38) (.tmp 37) 3,none⟩]) (.seq (.cond (.tmp 39) .skip (.exit 2)) (.seq (.block 3 (.seq (.reg [⟨some 40,.indexAddr 22 (.tmp 36) (.tmp 38),none⟩,⟨some 41,.load 24 (.tmp 40),none⟩,⟨some 7,.alloc 24,none⟩,⟨none,.store 24 (.tmp 7) (.tmp 41),none⟩]) (.drawn 10 [⟨some 42,.fieldAddr 29 (.tmp 3) 2,none⟩,⟨some 43,.fieldAddr 26 (.tmp 42) 1,none⟩,⟨some 44,.load 22 (.tmp 43),none⟩,⟨some 45,.load 24 (.tmp 7),none⟩,⟨some 46,.call ⟨.value (.func 124),#[.tmp 45],#[24]⟩,none⟩,⟨some 47,.buildSlice 22 1 #[(0,.tmp 46)],none⟩,⟨some 48,.call ⟨.builtin .append,#[.tmp 44,.tmp 47],#[22,22]⟩,none⟩,⟨some 49,.fieldAddr 29 (.tmp 3) 2,none⟩,⟨some 50,.fieldAddr 26 (.tmp 49) 1,none⟩,⟨none,.store 22 (.tmp 50) (.tmp 48),none⟩]))) (.reg [⟨some 51,.binOp .add 3 (.tmp 38) (.const (.int .i64 1)) 3,none⟩,⟨some 38,.move (.tmp 51),none⟩])))
def x88_T1 : XC := .seq (.seq (.reg [⟨some 34,.fieldAddr 29 (.tmp 1) 2,none⟩,⟨some 35,.fieldAddr 26 (.tmp 34) 1,none⟩,⟨some 36,.load 22 (.tmp 35),none⟩,⟨some 37,.call ⟨.builtin .len,#[.tmp 36],#[22]⟩,none⟩,⟨some 38,.move (.const (.int .i64 0)),none⟩]) (.bloop 2 x88_L2)) (x88_T3)
def x88_L0 : XC := .seq (.reg [⟨some 21,.binOp .lss 3 (.tmp 20) (.tmp 19) 3,none⟩]) (.seq (.cond (.tmp 21) .skip (.exit 0)) (.seq (.block 1 (.seq (.reg [⟨some 22,.indexAddr 22 (.tmp 18) (.tmp 20),none⟩,⟨some 23,.load 24 (.tmp 22),none⟩,⟨some 5,.alloc 24,none⟩,⟨none,.store 24 (.tmp 5) (.tmp 23),none⟩]) (.drawn 5 [⟨some 24,.fieldAddr 29 (.tmp 3) 2,none⟩,⟨some 25,.fieldAddr 26 (.tmp 24) 0,none⟩,⟨some 26,.load 22 (.tmp 25),none⟩,⟨some 27,.load 24 (.tmp 5),none⟩,⟨some 28,.call ⟨.value (.func 124),#[.tmp 27],#[24]⟩,none⟩,⟨some 29,.buildSlice 22 1 #[(0,.tmp 28)],none⟩,⟨some 30,.call ⟨.builtin .append,#[.tmp 26,.tmp 29],#[22,22]⟩,none⟩,⟨some 31,.fieldAddr 29 (.tmp 3) 2,none⟩,⟨some 32,.fieldAddr 26 (.tmp 31) 0,none⟩,⟨none,.store 22 (.tmp 32) (.tmp 30),none⟩]))) (.reg [⟨some 33,.binOp .add 3 (.tmp 20) (.const (.int .i64 1)) 3,none⟩,⟨some 20,.move (.tmp 33),none⟩])))
def x88 : XC := .seq (.reg [⟨some 1,.box 29 (.tmp 0),none⟩,⟨some 2,.alloc 29,none⟩]) (.seq (.drawn 1 [⟨some 10,.fieldAddr 29 (.tmp 1) 0,none⟩,⟨some 11,.load 9 (.tmp 10),none⟩,⟨some 12,.fieldAddr 29 (.tmp 1) 1,none⟩,⟨some 13,.load 24 (.tmp 12),none⟩,⟨some 14,.call ⟨.value (.func 124),#[.tmp 13],#[24]⟩,none⟩,⟨some 15,.build 29 #[(0,.tmp 11),(1,.tmp 14)],none⟩,⟨some 3,.alloc 29,none⟩,⟨none,.store 29 (.tmp 3) (.tmp 15),none⟩]) (.seq (.seq (.reg [⟨some 16,.fieldAddr 29 (.tmp 1) 2,none⟩,⟨some 17,.fieldAddr 26 (.tmp 16) 0,none⟩,⟨some 18,.load 22 (.tmp 17),none⟩,⟨some 19,.call ⟨.builtin .len,#[.tmp 18],#[22]⟩,none⟩,⟨some 20,.move (.const (.int .i64 0)),none⟩]) (.bloop 0 x88_L0)) (x88_T1)))
@[simp] theorem x88_s {C e s K} : type_of% (@X_at C e s K _ _ x88_T5.eq_1) ∧ type_of% (@X_at C e s K _ _ x88_L4.eq_1) ∧ type_of% (@X_at C e s K _ _ x88_T3.eq_1) ∧ type_of% (@X_at C e s K _ _ x88_L2.eq_1) ∧ type_of% (@X_at C e s K _ _ x88_T1.eq_1) ∧ type_of% (@X_at C e s K _ _ x88_L0.eq_1) ∧ type_of% (@X_at C e s K _ _ x88.eq_1) := ⟨X_at x88_T5.eq_1, X_at x88_L4.eq_1, X_at x88_T3.eq_1, X_at x88_L2.eq_1, X_at x88_T1.eq_1, X_at x88_L0.eq_1, X_at x88.eq_1⟩
def an88 : Ann := ⟨[(1, .mix 7), (5, .mix 6), (10, .mix 6), (15, .mix 5)], [(4, [(3, some 5006, 0), (3, some 6, 7)], [2, 3, 53, 54, 55], [2, 3]), (2, [(3, some 5005, 0), (3, some 5, 3)], [1, 2, 3, 36, 37, 38], [1, 2, 3]), (0, [(3, some 4, 3)], [1, 2, 3, 18, 19, 20], [1, 2, 3])], []⟩
@[simp] theorem an88_a : an88.clsOf 1 = .mix 7 ∧ an88.clsOf 5 = .mix 6 ∧ an88.clsOf 10 = .mix 6 ∧ an88.clsOf 15 = .mix 5 ∧ an88.frzOf 1 = [] ∧ an88.frzOf 5 = [] ∧ an88.frzOf 10 = [] ∧ an88.frzOf 15 = [] ∧ an88.loopOf 4 = ([(3, some 5006, 0), (3, some 6, 7)], [2, 3, 53, 54, 55], [2, 3]) ∧ an88.loopOf 2 = ([(3, some 5005, 0), (3, some 5, 3)], [1, 2, 3, 36, 37, 38], [1, 2, 3]) ∧ an88.loopOf 0 = ([(3, some 4, 3)], [1, 2, 3, 18, 19, 20], [1, 2, 3]) := ⟨rfl, rfl, rfl, rfl, rfl, rfl, rfl, rfl, rfl, rfl, rfl⟩
theorem fi88 : FI Try.prog 88 (cxA an88) x88 [.cell 2 29] Try.f88 := fiA Try.func88 mixed
theorem copied_classic (p : Pf) : ∀ d, vastP p d = false → CallOK Try.prog 88 [.agg (prf p)] [] (.agg (prf p)) [] := by
 induction p using Pf.ind with
 | h p ih =>
  intro d hd
  obtain ⟨v1, v2, v3, v4, v5, v6, v7⟩ := vastP_all hd
  have hc := Copy_formula p.f 0 v4
  have hpf := frm_eq p.f
  have hL := fms_take (l := p.l)
  have hR := fms_take (l := p.r)
  rw [hpf] at hc
  refine fi88.op ?_
  ((refine Sg.h ?_); try repeat' ((first | (with_reducible first | refine brA ?_ | refine brE fun _ => ?_ | (refine spl ⟨?_, ?_⟩ <;> intro _)) | refine clo hc ?_) <;> ((try simp -implicitDefEqProofs [hpf]); (try simp -implicitDefEqProofs (disch := first | assumption | (try simp only [lens]); omega -splitDisjunctions) [hpf]))))
  refine W_of fun Q hQ => ?_
  have main : ∀ n i, i + n = p.l.length → Q [(1, .ptr 0 0 0), (2, .ptr 1 0 0), (3, .ptr 2 0 0), (18, .list (p.l.map frm)), (19, .int .i64 (p.l.length : Int)), (20, .int .i64 (i : Int))] [.rows 7 [prf p], .rows 7 [[.str ⟨#[]⟩, .int .i64 0, .str ⟨#[]⟩, .nilsl, .nilsl, .nilsl, .nilsl]], .rows 7 [[.str p.rule, .int .i64 p.f.kind, .str p.f.name, .list (p.f.kids.map frm), .sl 3 0 (p.l.take i).length, .nilsl, .nilsl]], .rows 3 ((p.l.take i).map frm)] := by
   intro n
   induction n with
   | zero =>
    intro i hi
    obtain rfl : i = p.l.length := by omega
    rw [List.take_length]
    apply hQ
    clear hQ
    ((refine Sg.h ?_); try repeat' ((first | (with_reducible first | refine brA ?_ | refine brE fun _ => ?_ | (refine spl ⟨?_, ?_⟩ <;> intro _))) <;> ((try simp -implicitDefEqProofs [hL]); (try simp -implicitDefEqProofs (disch := first | assumption | (try simp only [lens]); omega -splitDisjunctions) [hL]))))
    refine W_of fun Q hQ => ?_
    have main2 : ∀ n i, i + n = p.r.length → Q [(1, .ptr 0 0 0), (2, .ptr 1 0 0), (3, .ptr 2 0 0), (36, .list (p.r.map frm)), (37, .int .i64 (p.r.length : Int)), (38, .int .i64 (i : Int))] [.rows 7 [prf p], .rows 7 [[.str ⟨#[]⟩, .int .i64 0, .str ⟨#[]⟩, .nilsl, .nilsl, .nilsl, .nilsl]], .rows 7 [[.str p.rule, .int .i64 p.f.kind, .str p.f.name, .list (p.f.kids.map frm), .list (p.l.map frm), .sl 3 0 (p.r.take i).length, .nilsl]], .rows 3 ((p.r.take i).map frm)] := by
     intro n
     induction n with
     | zero =>
      intro i hi
      obtain rfl : i = p.r.length := by omega
      rw [List.take_length]
      apply hQ
      clear hQ
      ((refine Sg.h ?_); try repeat' ((first | (with_reducible first | refine brA ?_ | refine brE fun _ => ?_ | (refine spl ⟨?_, ?_⟩ <;> intro _))) <;> ((try simp -implicitDefEqProofs [hR]); (try simp -implicitDefEqProofs (disch := first | assumption | (try simp only [lens]); omega -splitDisjunctions) [hR]))))
      refine W_of fun Q hQ => ?_
      have main3 : ∀ n i, i + n = p.kids.length → Q [(2, .ptr 0 0 0), (3, .ptr 1 0 0), (53, .list (p.kids.map prf)), (54, .int .i64 (p.kids.length : Int)), (55, .int .i64 (i : Int))] [.rows 7 [[.str ⟨#[]⟩, .int .i64 0, .str ⟨#[]⟩, .nilsl, .nilsl, .nilsl, .nilsl]], .rows 7 [[.str p.rule, .int .i64 p.f.kind, .str p.f.name, .list (p.f.kids.map frm), .list (p.l.map frm), .list (p.r.map frm), .sl 2 0 (p.kids.take i).length]], .rows 7 ((p.kids.take i).map prf)] := by
       intro n
       induction n with
       | zero =>
        intro i hi
        obtain rfl : i = p.kids.length := by omega
        rw [List.take_length]
        apply hQ
        clear hQ
        ((refine Sg.h ?_); try repeat' ((first | (with_reducible first | refine brA ?_ | refine brE fun _ => ?_ | (refine spl ⟨?_, ?_⟩ <;> intro _))) <;> ((try simp -implicitDefEqProofs); (try simp -implicitDefEqProofs (disch := first | assumption | (try simp only [lens]); omega -splitDisjunctions)))))
        all_goals rw [prf_eq]
       | succ n ihn =>
        intro i hi
        have hil : i < p.kids.length := by omega
        have ihn := ihn (i + 1) (by omega)
        have hc := ih p.kids[i] (List.getElem_mem hil) _ (v7 _ (List.getElem_mem hil))
        have hlen : (p.kids.take i).length = i := by rw [List.length_take]; omega
        rw [take_snoc hil] at ihn
        generalize p.kids.take i = T at *
        apply hQ
        clear hQ
        ((refine Sg.h ?_); try repeat' ((first | (with_reducible first | refine brA ?_ | refine brE fun _ => ?_ | (refine spl ⟨?_, ?_⟩ <;> intro _)) | refine clo hc ?_) <;> ((try simp -implicitDefEqProofs [hil]); (try simp -implicitDefEqProofs (disch := first | assumption | (try simp only [lens]); omega -splitDisjunctions) [hil]))))
        all_goals first | exact ihn | (refine at2 ihn ?_ ?_ <;> simp; done) | (exfalso; first | omega | (simp_all; done) | (simp_all; omega))
      all_goals first | exact main3 _ 0 (Nat.zero_add _) | (refine at2 main3 _ 0 (Nat.zero_add _) ?_ ?_ <;> simp; done) | (exfalso; first | omega | (simp_all; done) | (simp_all; omega))
     | succ n ihn =>
      intro i hi
      have hil : i < p.r.length := by omega
      have ihn := ihn (i + 1) (by omega)
      have hc := Copy_formula p.r[i] 0 (v6 _ (List.getElem_mem hil))
      have hlen : (p.r.take i).length = i := by rw [List.length_take]; omega
      rw [take_snoc hil] at ihn
      generalize p.r.take i = T at *
      apply hQ
      clear hQ
      ((refine Sg.h ?_); try repeat' ((first | (with_reducible first | refine brA ?_ | refine brE fun _ => ?_ | (refine spl ⟨?_, ?_⟩ <;> intro _)) | refine clo hc ?_) <;> ((try simp -implicitDefEqProofs [hil]); (try simp -implicitDefEqProofs (disch := first | assumption | (try simp only [lens]); omega -splitDisjunctions) [hil]))))
      all_goals first | exact ihn | (refine at2 ihn ?_ ?_ <;> simp; done) | (exfalso; first | omega | (simp_all; done) | (simp_all; omega))
    all_goals first | exact main2 _ 0 (Nat.zero_add _) | (refine at2 main2 _ 0 (Nat.zero_add _) ?_ ?_ <;> simp; done) | (exfalso; first | omega | (simp_all; done) | (simp_all; omega))
   | succ n ihn =>
    intro i hi
    have hil : i < p.l.length := by omega
    have ihn := ihn (i + 1) (by omega)
    have hc := Copy_formula p.l[i] 0 (v5 _ (List.getElem_mem hil))
    have hlen : (p.l.take i).length = i := by rw [List.length_take]; omega
    rw [take_snoc hil] at ihn
    generalize p.l.take i = T at *
    apply hQ
    clear hQ
    ((refine Sg.h ?_); try repeat' ((first | (with_reducible first | refine brA ?_ | refine brE fun _ => ?_ | (refine spl ⟨?_, ?_⟩ <;> intro _)) | refine clo hc ?_) <;> ((try simp -implicitDefEqProofs [hil]); (try simp -implicitDefEqProofs (disch := first | assumption | (try simp only [lens]); omega -splitDisjunctions) [hil]))))
    all_goals first | exact ihn | (refine at2 ihn ?_ ?_ <;> simp; done) | (exfalso; first | omega | (simp_all; done) | (simp_all; omega))
  all_goals first | exact main _ 0 (Nat.zero_add _) | (refine at2 main _ 0 (Nat.zero_add _) ?_ ?_ <;> simp; done) | (exfalso; first | omega | (simp_all; done) | (simp_all; omega))
end Go.Proofs.Ytnoklmapofogeaa
namespace Go.Proofs.Ytnoklmapofogeaa
open Go Go.Pv
noncomputable def provF (l r : List Fm) : GR := growF (szL l + szL r + 1) l r 1 0
def cntV : Option (List ByteArray) → PV
 | none => .nilsl
 | some V => .list ((cntC V).map strRow)
def x50 : XC := .seq (.reg [⟨some 1,.box 26 (.tmp 0),none⟩,⟨some 2,.alloc 29,none⟩,⟨some 3,.assign (.const (.slice none 0 0)),none⟩,⟨some 4,.assign (.const (.bool false)),none⟩,⟨some 5,.alloc 33,none⟩]) (.seq (.seq (.reg [⟨some 9,.load 26 (.tmp 1),none⟩,⟨some 10,.call ⟨.value (.func 30),#[.tmp 9],#[26]⟩,none⟩,⟨some 6,.alloc 33,none⟩,⟨none,.store 33 (.tmp 6) (.tmp 10),none⟩]) (.seq (.reg [⟨some 11,.fieldAddr 33 (.tmp 6) 0,none⟩,⟨some 12,.load 3 (.tmp 11),none⟩,⟨some 13,.binOp .neq 3 (.tmp 12) (.const (.int .i64 0)) 3,none⟩]) (.cond (.tmp 13) (.seq (.drawn 3 [⟨some 14,.load 29 (.tmp 2),none⟩,⟨some 15,.load 33 (.tmp 6),none⟩,⟨none,.store 29 (.tmp 2) (.tmp 14),none⟩,⟨some 3,.assign (.const (.slice none 0 0)),none⟩,⟨some 4,.assign (.const (.bool false)),none⟩,⟨none,.store 33 (.tmp 5) (.tmp 15),none⟩]) .ret) .skip))) (.seq (.reg [⟨some 16,.build 104 #[],none⟩,⟨some 17,.box 104 (.tmp 16),none⟩,⟨some 7,.assign (.tmp 17),none⟩]) (.seq (.reg [⟨some 19,.move (.tmp 7),none⟩,⟨some 20,.fieldAddr 26 (.tmp 1) 0,none⟩,⟨some 21,.load 22 (.tmp 20),none⟩,⟨some 22,.fieldAddr 26 (.tmp 1) 1,none⟩,⟨some 23,.load 22 (.tmp 22),none⟩,⟨some 24,.call ⟨.value (.func 87),#[.tmp 19,.tmp 21,.tmp 23,.const (.int .i64 1)],#[102,22,22,3]⟩,none⟩,⟨some 18,.move (.tmp 24),none⟩,⟨some 25,.extract (.tmp 18) 0,none⟩,⟨some 26,.extract (.tmp 18) 1,none⟩,⟨none,.store 29 (.tmp 2) (.tmp 25),none⟩,⟨some 8,.assign (.tmp 26),none⟩]) (.seq (.block 0 (.seq (.reg [⟨some 28,.move (.tmp 8),none⟩,⟨some 27,.assign (.tmp 28),none⟩]) (.cond (.tmp 27) (.seq (.drawn 7 [⟨some 29,.load 29 (.tmp 2),none⟩,⟨some 30,.call ⟨.value (.func 88),#[.tmp 29],#[29]⟩,none⟩,⟨some 31,.load 33 (.tmp 5),none⟩,⟨none,.store 29 (.tmp 2) (.tmp 30),none⟩,⟨some 3,.assign (.const (.slice none 0 0)),none⟩,⟨some 4,.assign (.const (.bool true)),none⟩,⟨none,.store 33 (.tmp 5) (.tmp 31),none⟩]) .ret) (.seq (.reg [⟨some 33,.move (.tmp 7),none⟩,⟨some 34,.nilCheck (.tmp 33),none⟩,⟨some 35,.fieldAddr 104 (.tmp 34) 2,none⟩,⟨some 36,.load 4 (.tmp 35),none⟩,⟨some 32,.assign (.tmp 36),none⟩]) (.cond (.tmp 32) (.seq (.drawn 9 [⟨some 37,.build 29 #[],none⟩,⟨some 38,.move (.tmp 7),none⟩,⟨some 39,.nilCheck (.tmp 38),none⟩,⟨some 40,.fieldAddr 104 (.tmp 39) 1,none⟩,⟨some 41,.load 35 (.tmp 40),none⟩,⟨some 42,.load 33 (.tmp 5),none⟩,⟨none,.store 29 (.tmp 2) (.tmp 37),none⟩,⟨some 3,.assign (.tmp 41),none⟩,⟨some 4,.assign (.const (.bool false)),none⟩,⟨none,.store 33 (.tmp 5) (.tmp 42),none⟩]) .ret) .skip))))) (.seq (.reg [⟨some 43,.build 29 #[],none⟩,⟨some 44,.call ⟨.value (.func 89),#[.const (.int .i64 10),.const (.int .i64 0)],#[3,3]⟩,none⟩,⟨none,.store 29 (.tmp 2) (.tmp 43),none⟩,⟨some 3,.assign (.const (.slice none 0 0)),none⟩,⟨some 4,.assign (.const (.bool false)),none⟩,⟨none,.store 33 (.tmp 5) (.tmp 44),none⟩]) .ret)))))
@[simp] theorem x50_s {C e s K} : type_of% (@X_at C e s K _ _ x50.eq_1) := X_at x50.eq_1
def an50 : Ann := ⟨[(3, .tree (.op 0 (.op 1 (.op 2 (.ck 1 (.op 3 (.op 4 (.op 5 .fin)))))))), (7, .tree (.op 0 (.op 2 (.op 1 (.ck 2 (.op 3 (.ck 2 (.op 4 (.op 5 (.op 6 .fin)))))))))), (9, .tree (.op 0 (.op 1 (.op 2 (.op 3 (.op 4 (.op 5 (.op 6 (.ck 4 (.ck 5 (.op 7 (.op 8 (.op 9 .fin)))))))))))))], [], []⟩
@[simp] theorem an50_a : an50.clsOf 3 = .tree (.op 0 (.op 1 (.op 2 (.ck 1 (.op 3 (.op 4 (.op 5 .fin))))))) ∧ an50.clsOf 7 = .tree (.op 0 (.op 2 (.op 1 (.ck 2 (.op 3 (.ck 2 (.op 4 (.op 5 (.op 6 .fin))))))))) ∧ an50.clsOf 9 = .tree (.op 0 (.op 1 (.op 2 (.op 3 (.op 4 (.op 5 (.op 6 (.ck 4 (.ck 5 (.op 7 (.op 8 (.op 9 .fin)))))))))))) ∧ an50.frzOf 3 = [] ∧ an50.frzOf 7 = [] ∧ an50.frzOf 9 = [] := ⟨rfl, rfl, rfl, rfl, rfl, rfl⟩
theorem fi50 : FI Try.prog 50 (cxA an50) x50 [.cell 2 29, .tmp 3, .tmp 4, .cell 5 33] Try.f50 := fiA Try.func50 mixed
theorem Prove_fault (l r : List Fm) (hl : l.length ≤ 50000) (hr : r.length ≤ 50000) (h : (sequentF l r).1 ≠ 0) : CallOK Try.prog 50 [.agg [.list (l.map frm), .list (r.map frm)]] [] (.tuple [.agg noPf, .nilsl, .bool false, .agg [.int .i64 (sequentF l r).1, .int .i64 (sequentF l r).2]]) [] := by
 have hs := CheckSequent_calculus l r hl hr
 refine fi50.op ?_
 generalize sequentF l r = S at *
 unfold noPf
 ((refine Sg.h ?_); try repeat' ((first | (with_reducible first | refine brA ?_ | refine brE fun _ => ?_ | (refine spl ⟨?_, ?_⟩ <;> intro _)) | refine clo hs ?_) <;> ((try simp -implicitDefEqProofs [h]); (try simp -implicitDefEqProofs (disch := first | assumption | (try simp only [lens]); omega -splitDisjunctions) [h]))))
theorem Prove_open (l r : List Fm) (h : sequentF l r = (0, 0)) (hl : ∀ f ∈ l, Pl f) (hr : ∀ f ∈ r, Pl f) (hlen : l.length + r.length ≤ 60) (hok : (provF l r).ok = none) : CallOK Try.prog 50 [.agg [.list (l.map frm), .list (r.map frm)]] [] (.tuple [.agg noPf, cntV (provF l r).cnt, .bool false, .agg [.int .i64 (if (provF l r).cnt.isSome then 0 else 10), .int .i64 0]]) [] := by
 have hs := CheckSequent_calculus l r (by omega) (by omega)
 rw [h] at hs
 have hg := grow_classic (szL l + szL r + 1) l r 1 0 (by omega) hl hr (by decide) (by decide) (by omega) (by decide)
 change CallOK _ _ _ _ (.tuple [.agg (rowO (provF l r).ok), .bool (provF l r).ok.isSome]) (fndO 1 (provF l r).n (provF l r).cnt :: fndT (provF l r).cnt) at hg
 have hf := fault_classic 10 0
 rw [hok, rowO_n] at hg
 generalize (provF l r).n = n at *
 unfold noPf at hg ⊢
 cases hc : (provF l r).cnt with
 | none =>
  rw [hc] at hg
  unfold fndO fndT at hg
  refine fi50.op ?_
  unfold cntV
  ((refine Sg.h ?_); try repeat' ((first | (with_reducible first | refine brA ?_ | refine brE fun _ => ?_ | (refine spl ⟨?_, ?_⟩ <;> intro _)) | refine clo hs ?_) <;> ((try simp -implicitDefEqProofs); (try simp -implicitDefEqProofs (disch := first | assumption | (try simp only [lens]); omega -splitDisjunctions)))))
  refine CL.sub [4] (hc := by simpa using hg) ?_
  ((refine Sg.h ?_); try repeat' ((first | (with_reducible first | refine brA ?_ | refine brE fun _ => ?_ | (refine spl ⟨?_, ?_⟩ <;> intro _)) | refine clo hf ?_) <;> ((try simp -implicitDefEqProofs); (try simp -implicitDefEqProofs (disch := first | assumption | (try simp only [lens]); omega -splitDisjunctions)))))
 | some V =>
  rw [hc] at hg
  unfold fndO fndT at hg
  refine fi50.oz ?_
  unfold cntV
  ((refine Sg.h ?_); try repeat' ((first | (with_reducible first | refine brA ?_ | refine brE fun _ => ?_ | (refine spl ⟨?_, ?_⟩ <;> intro _)) | refine clo hs ?_) <;> ((try simp -implicitDefEqProofs); (try simp -implicitDefEqProofs (disch := first | assumption | (try simp only [lens]); omega -splitDisjunctions)))))
  refine CL.sub [4] (hc := by simpa using hg) ?_
  ((refine Sg.h ?_); try repeat' ((first | (with_reducible first | refine brA ?_ | refine brE fun _ => ?_ | (refine spl ⟨?_, ?_⟩ <;> intro _)) | refine clo hf ?_) <;> ((try simp -implicitDefEqProofs); (try simp -implicitDefEqProofs (disch := first | assumption | (try simp only [lens]); omega -splitDisjunctions)))))
theorem Prove_ok (l r : List Fm) (h : sequentF l r = (0, 0)) (hl : ∀ f ∈ l, Pl f) (hr : ∀ f ∈ r, Pl f) (hlen : l.length + r.length ≤ 60) (p : Pf) (hok : (provF l r).ok = some p) (hv : vastP p 0 = false) : CallOK Try.prog 50 [.agg [.list (l.map frm), .list (r.map frm)]] [] (.tuple [.agg (prf p), .nilsl, .bool true, .agg [.int .i64 0, .int .i64 0]]) [] := by
 have hs := CheckSequent_calculus l r (by omega) (by omega)
 rw [h] at hs
 have hg := grow_classic (szL l + szL r + 1) l r 1 0 (by omega) hl hr (by decide) (by decide) (by omega) (by decide)
 change CallOK _ _ _ _ (.tuple [.agg (rowO (provF l r).ok), .bool (provF l r).ok.isSome]) (fndO 1 (provF l r).n (provF l r).cnt :: fndT (provF l r).cnt) at hg
 have hn : (provF l r).cnt = none := (growF_n _ _ _ _ _ p hok).2
 rw [hn, hok, rowO_s] at hg
 have hc := copied_classic p 0 hv
 generalize (provF l r).n = n at *
 unfold fndO fndT at hg
 refine fi50.op ?_
 ((refine Sg.h ?_); try repeat' ((first | (with_reducible first | refine brA ?_ | refine brE fun _ => ?_ | (refine spl ⟨?_, ?_⟩ <;> intro _)) | refine clo hs ?_) <;> ((try simp -implicitDefEqProofs); (try simp -implicitDefEqProofs (disch := first | assumption | (try simp only [lens]); omega -splitDisjunctions)))))
 refine CL.sub [4] (hc := by simpa using hg) ?_
 ((refine Sg.h ?_); try repeat' ((first | (with_reducible first | refine brA ?_ | refine brE fun _ => ?_ | (refine spl ⟨?_, ?_⟩ <;> intro _)) | refine clo hc ?_) <;> ((try simp -implicitDefEqProofs); (try simp -implicitDefEqProofs (disch := first | assumption | (try simp only [lens]); omega -splitDisjunctions)))))
end Go.Proofs.Ytnoklmapofogeaa
