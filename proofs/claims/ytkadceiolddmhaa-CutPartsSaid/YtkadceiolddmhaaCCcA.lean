import Derived.Test.YtkadceiolddmhaaCQTn
set_option linter.unusedVariables false
set_option linter.unusedSimpArgs false
set_option maxRecDepth 100000
set_option maxHeartbeats 4000000
namespace Go.Proofs.Ytkadceiolddmhaa
open Go Go.Pv
theorem flat_len_le {α : Type} : ∀ (l : List (List α)) (i : Nat), (l.take i).flatten.length ≤ l.flatten.length
 | [], i => by simp
 | a :: r, 0 => by simp
 | a :: r, i + 1 => by simp only [List.take_succ_cons, List.flatten_cons, List.length_append]; have := flat_len_le r i; omega
def x196 : XC := .seq (.reg [⟨some 4,.assign (.const (.slice none 0 0)),none⟩]) (.seq (.seq (.reg [⟨some 5,.move (.tmp 1),none⟩,⟨some 6,.binOp .lss 3 (.tmp 5) (.const (.int .i64 0)) 3,none⟩]) (.cond (.tmp 6) (.reg [⟨some 7,.makeInterface 9 (.const (.string ⟨#[99,97,110,110,111,116,32,98,101,32,110,101,103,97,116,105,118,101]⟩)),none⟩,⟨none,.panic (.tmp 7),none⟩]) .skip)) (.seq (.seq (.reg [⟨some 8,.move (.tmp 1),none⟩,⟨some 9,.move (.tmp 0),none⟩,⟨some 10,.call ⟨.builtin .cap,#[.tmp 9],#[57]⟩,none⟩,⟨some 11,.move (.tmp 0),none⟩,⟨some 12,.call ⟨.builtin .len,#[.tmp 11],#[57]⟩,none⟩,⟨some 13,.binOp .sub 3 (.tmp 10) (.tmp 12) 3,none⟩,⟨some 14,.binOp .sub 3 (.tmp 8) (.tmp 13) 3,none⟩,⟨some 1,.assign (.tmp 14),none⟩]) (.seq (.reg [⟨some 15,.move (.tmp 1),none⟩,⟨some 16,.binOp .gtr 3 (.tmp 15) (.const (.int .i64 0)) 3,none⟩]) (.cond (.tmp 16) (.reg [⟨some 17,.move (.tmp 0),none⟩,⟨some 18,.move (.tmp 0),none⟩,⟨some 19,.call ⟨.builtin .cap,#[.tmp 18],#[57]⟩,none⟩,⟨some 20,.slice 57 (.tmp 17) none (some (.tmp 19)) none,none⟩,⟨some 21,.move (.tmp 1),none⟩,⟨some 22,.call ⟨.builtin .append,#[.tmp 20,.tmp 21],#[57,3]⟩,none⟩,⟨some 23,.move (.tmp 0),none⟩,⟨some 24,.call ⟨.builtin .len,#[.tmp 23],#[57]⟩,none⟩,⟨some 25,.slice 57 (.tmp 22) none (some (.tmp 24)) none,none⟩,⟨some 0,.assign (.tmp 25),none⟩]) .skip))) (.seq (.reg [⟨some 26,.move (.tmp 0),none⟩,⟨some 4,.assign (.tmp 26),none⟩]) .ret)))
@[simp] theorem x196_s {C e s K} : type_of% (@X_at C e s K _ _ x196.eq_1) := X_at x196.eq_1
def an196 : Ann := ⟨[], [], []⟩
theorem fi196 : FI Try.prog 196 (cxA an196) x196 [.tmp 4] Try.f196 := fiA Try.func196 mixed
theorem Grow_fms (n : Nat) (hn : n ≤ 1000000) (h0 : 0 < n) : CallOK Try.prog 196 [.nilsl, .int .i64 (n : Int)] [] (.sl 0 0 0) [.rows 3 (List.replicate n [.int .i64 0, .str ⟨#[]⟩, .nilsl])] := by
 have h1 : (0 : Int) < n := by omega
 have h2 : ¬ ((n : Int) < 0) := by omega
 refine fi196.og ?_
 ((refine Sg.h ?_); try repeat' ((first | (with_reducible first | refine brA ?_ | refine brE fun _ => ?_ | (refine spl ⟨?_, ?_⟩ <;> intro _))) <;> ((try simp -implicitDefEqProofs [h1, h2]); (try simp -implicitDefEqProofs (disch := first | assumption | (try simp only [lens]); omega -splitDisjunctions) [h1, h2]))))
theorem Grow_fms0 : CallOK Try.prog 196 [.nilsl, .int .i64 0] [] .nilsl [] := by
 refine fi196.og ?_
 ((refine Sg.h ?_); try repeat' ((first | (with_reducible first | refine brA ?_ | refine brE fun _ => ?_ | (refine spl ⟨?_, ?_⟩ <;> intro _))) <;> ((try simp -implicitDefEqProofs); (try simp -implicitDefEqProofs (disch := first | assumption | (try simp only [lens]); omega -splitDisjunctions)))))
def x168_T3 : XC := .seq (.reg [⟨some 35,.move (.tmp 6),none⟩,⟨some 2,.assign (.tmp 35),none⟩]) .ret
def x168_L2 : XC := .seq (.reg [⟨some 28,.binOp .lss 3 (.tmp 27) (.tmp 26) 3,none⟩]) (.seq (.cond (.tmp 28) .skip (.exit 2)) (.seq (.block 3 (.seq (.reg [⟨some 29,.indexAddr 254 (.tmp 25) (.tmp 27),none⟩,⟨some 30,.load 57 (.tmp 29),none⟩,⟨some 8,.assign (.tmp 30),none⟩]) (.reg [⟨some 31,.move (.tmp 6),none⟩,⟨some 32,.move (.tmp 8),none⟩,⟨some 33,.call ⟨.builtin .append,#[.tmp 31,.tmp 32],#[57,57]⟩,none⟩,⟨some 6,.assign (.tmp 33),none⟩]))) (.reg [⟨some 34,.binOp .add 3 (.tmp 27) (.const (.int .i64 1)) 3,none⟩,⟨some 27,.move (.tmp 34),none⟩])))
def x168_T1 : XC := .seq (.reg [⟨some 23,.move (.tmp 3),none⟩,⟨some 24,.call ⟨.value (.func 196),#[.const (.slice none 0 0),.tmp 23],#[57,3]⟩,none⟩,⟨some 6,.assign (.tmp 24),none⟩]) (.seq (.seq (.reg [⟨some 25,.move (.tmp 0),none⟩,⟨some 26,.call ⟨.builtin .len,#[.tmp 25],#[254]⟩,none⟩,⟨some 27,.move (.const (.int .i64 0)),none⟩]) (.bloop 2 x168_L2)) (x168_T3))
def x168_L0 : XC := .seq (.reg [⟨some 12,.binOp .lss 3 (.tmp 11) (.tmp 10) 3,none⟩]) (.seq (.cond (.tmp 12) .skip (.exit 0)) (.seq (.block 1 (.seq (.reg [⟨some 13,.indexAddr 254 (.tmp 9) (.tmp 11),none⟩,⟨some 14,.load 57 (.tmp 13),none⟩,⟨some 5,.assign (.tmp 14),none⟩]) (.seq (.reg [⟨some 15,.move (.tmp 3),none⟩,⟨some 16,.move (.tmp 5),none⟩,⟨some 17,.call ⟨.builtin .len,#[.tmp 16],#[57]⟩,none⟩,⟨some 18,.binOp .add 3 (.tmp 15) (.tmp 17) 3,none⟩,⟨some 3,.assign (.tmp 18),none⟩]) (.seq (.reg [⟨some 19,.move (.tmp 3),none⟩,⟨some 20,.binOp .lss 3 (.tmp 19) (.const (.int .i64 0)) 3,none⟩]) (.cond (.tmp 20) (.reg [⟨some 21,.makeInterface 9 (.const (.string ⟨#[108,101,110,32,111,117,116,32,111,102,32,114,97,110,103,101]⟩)),none⟩,⟨none,.panic (.tmp 21),none⟩]) .skip))))) (.reg [⟨some 22,.binOp .add 3 (.tmp 11) (.const (.int .i64 1)) 3,none⟩,⟨some 11,.move (.tmp 22),none⟩])))
def x168 : XC := .seq (.reg [⟨some 2,.assign (.const (.slice none 0 0)),none⟩]) (.seq (.reg [⟨some 3,.assign (.const (.int .i64 0)),none⟩]) (.seq (.seq (.reg [⟨some 9,.move (.tmp 0),none⟩,⟨some 10,.call ⟨.builtin .len,#[.tmp 9],#[254]⟩,none⟩,⟨some 11,.move (.const (.int .i64 0)),none⟩]) (.bloop 0 x168_L0)) (x168_T1)))
@[simp] theorem x168_s {C e s K} : type_of% (@X_at C e s K _ _ x168_T3.eq_1) ∧ type_of% (@X_at C e s K _ _ x168_L2.eq_1) ∧ type_of% (@X_at C e s K _ _ x168_T1.eq_1) ∧ type_of% (@X_at C e s K _ _ x168_L0.eq_1) ∧ type_of% (@X_at C e s K _ _ x168.eq_1) := ⟨X_at x168_T3.eq_1, X_at x168_L2.eq_1, X_at x168_T1.eq_1, X_at x168_L0.eq_1, X_at x168.eq_1⟩
def an168 : Ann := ⟨[], [(2, [(6, none, 3)], [6, 25, 26, 27], [6]), (0, [], [0, 3, 9, 10, 11], [0, 3])], []⟩
@[simp] theorem an168_a : an168.loopOf 2 = ([(6, none, 3)], [6, 25, 26, 27], [6]) ∧ an168.loopOf 0 = ([], [0, 3, 9, 10, 11], [0, 3]) := ⟨rfl, rfl⟩
theorem fi168 : FI Try.prog 168 (cxA an168) x168 [.tmp 2] Try.f168 := fiA Try.func168 mixed
theorem Concat_fms (xss : List (List Fm)) (hl : xss.length ≤ 1000) (ht : xss.flatten.length ≤ 1000000) : CallOK Try.prog 168 [.list (xss.map fun xs => [.list (xs.map frm)])] [] (.list (xss.flatten.map frm)) [] := by
 refine fi168.os ?_
 ((refine Sg.h ?_); try repeat' ((first | (with_reducible first | refine brA ?_ | refine brE fun _ => ?_ | (refine spl ⟨?_, ?_⟩ <;> intro _))) <;> ((try simp -implicitDefEqProofs); (try simp -implicitDefEqProofs (disch := first | assumption | (try simp only [lens]); omega -splitDisjunctions)))))
 refine W_of fun Q hQ => ?_
 have main : ∀ n i, i + n = xss.length → Q [(0, .list (xss.map fun xs => [.list (xs.map frm)])), (3, .int .i64 ((xss.take i).flatten.length : Int)), (9, .list (xss.map fun xs => [.list (xs.map frm)])), (10, .int .i64 (xss.length : Int)), (11, .int .i64 (i : Int))] [] := by
  intro n
  induction n with
  | zero =>
   intro i hi
   obtain rfl : i = xss.length := by omega
   rw [List.take_length]
   have hg := Grow_fms xss.flatten.length ht
   have hg0 := Grow_fms0
   rcases Nat.eq_zero_or_pos xss.flatten.length with h0 | h0
   ·rw [h0]
    apply hQ
    clear hQ
    ((refine Sg.h ?_); try repeat' ((first | (with_reducible first | refine brA ?_ | refine brE fun _ => ?_ | (refine spl ⟨?_, ?_⟩ <;> intro _)) | refine clo hg0 ?_) <;> ((try simp -implicitDefEqProofs); (try simp -implicitDefEqProofs (disch := first | assumption | (try simp only [lens]); omega -splitDisjunctions)))))
    refine W_of fun Q hQ => ?_
    have main : ∀ n i rest, i + n = xss.length → Q [(6, .sl 0 0 (xss.take i).flatten.length), (25, .list (xss.map fun xs => [.list (xs.map frm)])), (26, .int .i64 (xss.length : Int)), (27, .int .i64 (i : Int))] [.rows 3 ((xss.take i).flatten.map frm ++ rest)] := by
     intro n
     induction n with
     | zero =>
      intro i rest hi
      obtain rfl : i = xss.length := by omega
      rw [List.take_length]
      have hLm : (xss.map (List.map frm)).flatten = xss.flatten.map frm := by simp [List.map_flatten]
      generalize xss.flatten = L at *
      apply hQ
      clear hQ
      ((refine Sg.h ?_); try repeat' ((first | (with_reducible first | refine brA ?_ | refine brE fun _ => ?_ | (refine spl ⟨?_, ?_⟩ <;> intro _))) <;> ((try simp -implicitDefEqProofs [hLm]); (try simp -implicitDefEqProofs (disch := first | assumption | (try simp only [lens]); omega -splitDisjunctions) [hLm]))))
     | succ n ih =>
      intro i rest hi
      have hil : i < xss.length := by omega
      have ih := ih (i + 1) [] (by omega)
      have hle := flat_len_le xss (i + 1)
      rw [take_snoc hil, List.flatten_append] at ih hle
      simp only [List.flatten_cons, List.flatten_nil, List.append_nil] at ih hle
      rw [List.length_append] at hle
      generalize (xss.take i).flatten = T at *
      apply hQ
      clear hQ
      ((refine Sg.h ?_); try repeat' ((first | (with_reducible first | refine brA ?_ | refine brE fun _ => ?_ | (refine spl ⟨?_, ?_⟩ <;> intro _))) <;> ((try simp -implicitDefEqProofs [hil]); (try simp -implicitDefEqProofs (disch := first | assumption | (try simp only [lens]); omega -splitDisjunctions) [hil]))))
      all_goals first | exact ih | (refine at2 ih ?_ ?_ <;> simp; done) | (exfalso; first | omega | (simp_all; done) | (simp_all; omega))
    have m0 := main xss.length 0 [] (by omega)
    all_goals first | exact m0 | (refine at2 m0 ?_ ?_ <;> simp; done) | (exfalso; first | omega | (simp_all; done) | (simp_all; omega))
   ·have hg := hg h0
    generalize hT : xss.flatten.length = T at *
    apply hQ
    clear hQ
    ((refine Sg.h ?_); try repeat' ((first | (with_reducible first | refine brA ?_ | refine brE fun _ => ?_ | (refine spl ⟨?_, ?_⟩ <;> intro _))) <;> ((try simp -implicitDefEqProofs); (try simp -implicitDefEqProofs (disch := first | assumption | (try simp only [lens]); omega -splitDisjunctions)))))
    refine CL.of hg ?_
    ((refine Sg.h ?_); try repeat' ((first | (with_reducible first | refine brA ?_ | refine brE fun _ => ?_ | (refine spl ⟨?_, ?_⟩ <;> intro _))) <;> ((try simp -implicitDefEqProofs); (try simp -implicitDefEqProofs (disch := first | assumption | (try simp only [lens]); omega -splitDisjunctions)))))
    refine W_of fun Q hQ => ?_
    have main : ∀ n i rest, i + n = xss.length → Q [(6, .sl 0 0 (xss.take i).flatten.length), (25, .list (xss.map fun xs => [.list (xs.map frm)])), (26, .int .i64 (xss.length : Int)), (27, .int .i64 (i : Int))] [.rows 3 ((xss.take i).flatten.map frm ++ rest)] := by
     intro n
     induction n with
     | zero =>
      intro i rest hi
      obtain rfl : i = xss.length := by omega
      rw [List.take_length]
      have hLm : (xss.map (List.map frm)).flatten = xss.flatten.map frm := by simp [List.map_flatten]
      generalize xss.flatten = L at *
      apply hQ
      clear hQ
      ((refine Sg.h ?_); try repeat' ((first | (with_reducible first | refine brA ?_ | refine brE fun _ => ?_ | (refine spl ⟨?_, ?_⟩ <;> intro _))) <;> ((try simp -implicitDefEqProofs [hLm]); (try simp -implicitDefEqProofs (disch := first | assumption | (try simp only [lens]); omega -splitDisjunctions) [hLm]))))
     | succ n ih =>
      intro i rest hi
      have hil : i < xss.length := by omega
      have ih := ih (i + 1) [] (by omega)
      have hle := flat_len_le xss (i + 1)
      rw [take_snoc hil, List.flatten_append] at ih hle
      simp only [List.flatten_cons, List.flatten_nil, List.append_nil] at ih hle
      rw [List.length_append] at hle
      generalize (xss.take i).flatten = T at *
      apply hQ
      clear hQ
      ((refine Sg.h ?_); try repeat' ((first | (with_reducible first | refine brA ?_ | refine brE fun _ => ?_ | (refine spl ⟨?_, ?_⟩ <;> intro _))) <;> ((try simp -implicitDefEqProofs [hil]); (try simp -implicitDefEqProofs (disch := first | assumption | (try simp only [lens]); omega -splitDisjunctions) [hil]))))
      all_goals first | exact ih | (refine at2 ih ?_ ?_ <;> simp; done) | (exfalso; first | omega | (simp_all; done) | (simp_all; omega))
    have m0 := main xss.length 0 (List.replicate T [.int .i64 0, .str ⟨#[]⟩, .nilsl]) (by omega)
    all_goals first | exact m0 | (refine at2 m0 ?_ ?_ <;> simp; done) | (exfalso; first | omega | (simp_all; done) | (simp_all; omega))
  | succ n ih =>
   intro i hi
   have hil : i < xss.length := by omega
   have ih := ih (i + 1) (by omega)
   rw [take_snoc hil, List.flatten_append, List.length_append] at ih
   simp only [List.flatten_cons, List.flatten_nil, List.append_nil] at ih
   have hle : ((xss.take i).flatten.length : Int) + (xss[i].length : Int) ≤ 1000000 := by
    have := flat_len_le xss (i + 1)
    rw [take_snoc hil, List.flatten_append, List.length_append] at this
    simp only [List.flatten_cons, List.flatten_nil, List.append_nil] at this
    omega
   generalize (xss.take i).flatten.length = T at *
   apply hQ
   clear hQ
   ((refine Sg.h ?_); try repeat' ((first | (with_reducible first | refine brA ?_ | refine brE fun _ => ?_ | (refine spl ⟨?_, ?_⟩ <;> intro _))) <;> ((try simp -implicitDefEqProofs [hil]); (try simp -implicitDefEqProofs (disch := first | assumption | (try simp only [lens]); omega -splitDisjunctions) [hil]))))
   all_goals first | exact ih | (refine at2 ih ?_ ?_ <;> simp; done) | (exfalso; first | omega | (simp_all; done) | (simp_all; omega))
 all_goals first | exact main _ 0 (Nat.zero_add _) | (refine at2 main _ 0 (Nat.zero_add _) ?_ ?_ <;> simp; done) | (exfalso; first | omega | (simp_all; done) | (simp_all; omega))
def x241 : XC := .seq (.reg [⟨some 4,.assign (.const (.slice none 0 0)),none⟩]) (.seq (.seq (.reg [⟨some 5,.move (.tmp 1),none⟩,⟨some 6,.binOp .lss 3 (.tmp 5) (.const (.int .i64 0)) 3,none⟩]) (.cond (.tmp 6) (.reg [⟨some 7,.makeInterface 9 (.const (.string ⟨#[99,97,110,110,111,116,32,98,101,32,110,101,103,97,116,105,118,101]⟩)),none⟩,⟨none,.panic (.tmp 7),none⟩]) .skip)) (.seq (.seq (.reg [⟨some 8,.move (.tmp 1),none⟩,⟨some 9,.move (.tmp 0),none⟩,⟨some 10,.call ⟨.builtin .cap,#[.tmp 9],#[226]⟩,none⟩,⟨some 11,.move (.tmp 0),none⟩,⟨some 12,.call ⟨.builtin .len,#[.tmp 11],#[226]⟩,none⟩,⟨some 13,.binOp .sub 3 (.tmp 10) (.tmp 12) 3,none⟩,⟨some 14,.binOp .sub 3 (.tmp 8) (.tmp 13) 3,none⟩,⟨some 1,.assign (.tmp 14),none⟩]) (.seq (.reg [⟨some 15,.move (.tmp 1),none⟩,⟨some 16,.binOp .gtr 3 (.tmp 15) (.const (.int .i64 0)) 3,none⟩]) (.cond (.tmp 16) (.reg [⟨some 17,.move (.tmp 0),none⟩,⟨some 18,.move (.tmp 0),none⟩,⟨some 19,.call ⟨.builtin .cap,#[.tmp 18],#[226]⟩,none⟩,⟨some 20,.slice 226 (.tmp 17) none (some (.tmp 19)) none,none⟩,⟨some 21,.move (.tmp 1),none⟩,⟨some 22,.call ⟨.builtin .append,#[.tmp 20,.tmp 21],#[226,3]⟩,none⟩,⟨some 23,.move (.tmp 0),none⟩,⟨some 24,.call ⟨.builtin .len,#[.tmp 23],#[226]⟩,none⟩,⟨some 25,.slice 226 (.tmp 22) none (some (.tmp 24)) none,none⟩,⟨some 0,.assign (.tmp 25),none⟩]) .skip))) (.seq (.reg [⟨some 26,.move (.tmp 0),none⟩,⟨some 4,.assign (.tmp 26),none⟩]) .ret)))
@[simp] theorem x241_s {C e s K} : type_of% (@X_at C e s K _ _ x241.eq_1) := X_at x241.eq_1
def an241 : Ann := ⟨[], [], []⟩
theorem fi241 : FI Try.prog 241 (cxA an241) x241 [.tmp 4] Try.f241 := fiA Try.func241 mixed
theorem Grow_bag (n : Nat) (hn : n ≤ 1000000) (h0 : 0 < n) : CallOK Try.prog 241 [.nilsl, .int .i64 (n : Int)] [] (.sl 0 0 0) [.rows 3 (List.replicate n [.int .i64 0, .str ⟨#[]⟩, .nilsl])] := by
 have h1 : (0 : Int) < n := by omega
 have h2 : ¬ ((n : Int) < 0) := by omega
 refine fi241.og ?_
 ((refine Sg.h ?_); try repeat' ((first | (with_reducible first | refine brA ?_ | refine brE fun _ => ?_ | (refine spl ⟨?_, ?_⟩ <;> intro _))) <;> ((try simp -implicitDefEqProofs [h1, h2]); (try simp -implicitDefEqProofs (disch := first | assumption | (try simp only [lens]); omega -splitDisjunctions) [h1, h2]))))
theorem Grow_bag0 : CallOK Try.prog 241 [.nilsl, .int .i64 0] [] .nilsl [] := by
 refine fi241.og ?_
 ((refine Sg.h ?_); try repeat' ((first | (with_reducible first | refine brA ?_ | refine brE fun _ => ?_ | (refine spl ⟨?_, ?_⟩ <;> intro _))) <;> ((try simp -implicitDefEqProofs); (try simp -implicitDefEqProofs (disch := first | assumption | (try simp only [lens]); omega -splitDisjunctions)))))
def x234_T3 : XC := .seq (.reg [⟨some 35,.move (.tmp 6),none⟩,⟨some 2,.assign (.tmp 35),none⟩]) .ret
def x234_L2 : XC := .seq (.reg [⟨some 28,.binOp .lss 3 (.tmp 27) (.tmp 26) 3,none⟩]) (.seq (.cond (.tmp 28) .skip (.exit 2)) (.seq (.block 3 (.seq (.reg [⟨some 29,.indexAddr 274 (.tmp 25) (.tmp 27),none⟩,⟨some 30,.load 226 (.tmp 29),none⟩,⟨some 8,.assign (.tmp 30),none⟩]) (.reg [⟨some 31,.move (.tmp 6),none⟩,⟨some 32,.move (.tmp 8),none⟩,⟨some 33,.call ⟨.builtin .append,#[.tmp 31,.tmp 32],#[226,226]⟩,none⟩,⟨some 6,.assign (.tmp 33),none⟩]))) (.reg [⟨some 34,.binOp .add 3 (.tmp 27) (.const (.int .i64 1)) 3,none⟩,⟨some 27,.move (.tmp 34),none⟩])))
def x234_T1 : XC := .seq (.reg [⟨some 23,.move (.tmp 3),none⟩,⟨some 24,.call ⟨.value (.func 241),#[.const (.slice none 0 0),.tmp 23],#[226,3]⟩,none⟩,⟨some 6,.assign (.tmp 24),none⟩]) (.seq (.seq (.reg [⟨some 25,.move (.tmp 0),none⟩,⟨some 26,.call ⟨.builtin .len,#[.tmp 25],#[274]⟩,none⟩,⟨some 27,.move (.const (.int .i64 0)),none⟩]) (.bloop 2 x234_L2)) (x234_T3))
def x234_L0 : XC := .seq (.reg [⟨some 12,.binOp .lss 3 (.tmp 11) (.tmp 10) 3,none⟩]) (.seq (.cond (.tmp 12) .skip (.exit 0)) (.seq (.block 1 (.seq (.reg [⟨some 13,.indexAddr 274 (.tmp 9) (.tmp 11),none⟩,⟨some 14,.load 226 (.tmp 13),none⟩,⟨some 5,.assign (.tmp 14),none⟩]) (.seq (.reg [⟨some 15,.move (.tmp 3),none⟩,⟨some 16,.move (.tmp 5),none⟩,⟨some 17,.call ⟨.builtin .len,#[.tmp 16],#[226]⟩,none⟩,⟨some 18,.binOp .add 3 (.tmp 15) (.tmp 17) 3,none⟩,⟨some 3,.assign (.tmp 18),none⟩]) (.seq (.reg [⟨some 19,.move (.tmp 3),none⟩,⟨some 20,.binOp .lss 3 (.tmp 19) (.const (.int .i64 0)) 3,none⟩]) (.cond (.tmp 20) (.reg [⟨some 21,.makeInterface 9 (.const (.string ⟨#[108,101,110,32,111,117,116,32,111,102,32,114,97,110,103,101]⟩)),none⟩,⟨none,.panic (.tmp 21),none⟩]) .skip))))) (.reg [⟨some 22,.binOp .add 3 (.tmp 11) (.const (.int .i64 1)) 3,none⟩,⟨some 11,.move (.tmp 22),none⟩])))
def x234 : XC := .seq (.reg [⟨some 2,.assign (.const (.slice none 0 0)),none⟩]) (.seq (.reg [⟨some 3,.assign (.const (.int .i64 0)),none⟩]) (.seq (.seq (.reg [⟨some 9,.move (.tmp 0),none⟩,⟨some 10,.call ⟨.builtin .len,#[.tmp 9],#[274]⟩,none⟩,⟨some 11,.move (.const (.int .i64 0)),none⟩]) (.bloop 0 x234_L0)) (x234_T1)))
@[simp] theorem x234_s {C e s K} : type_of% (@X_at C e s K _ _ x234_T3.eq_1) ∧ type_of% (@X_at C e s K _ _ x234_L2.eq_1) ∧ type_of% (@X_at C e s K _ _ x234_T1.eq_1) ∧ type_of% (@X_at C e s K _ _ x234_L0.eq_1) ∧ type_of% (@X_at C e s K _ _ x234.eq_1) := ⟨X_at x234_T3.eq_1, X_at x234_L2.eq_1, X_at x234_T1.eq_1, X_at x234_L0.eq_1, X_at x234.eq_1⟩
def an234 : Ann := ⟨[], [(2, [(6, none, 3)], [6, 25, 26, 27], [6]), (0, [], [0, 3, 9, 10, 11], [0, 3])], []⟩
@[simp] theorem an234_a : an234.loopOf 2 = ([(6, none, 3)], [6, 25, 26, 27], [6]) ∧ an234.loopOf 0 = ([], [0, 3, 9, 10, 11], [0, 3]) := ⟨rfl, rfl⟩
theorem fi234 : FI Try.prog 234 (cxA an234) x234 [.tmp 2] Try.f234 := fiA Try.func234 mixed
theorem Concat_bag (xss : List (List Fm)) (hl : xss.length ≤ 1000) (ht : xss.flatten.length ≤ 1000000) : CallOK Try.prog 234 [.list (xss.map fun xs => [.list (xs.map frm)])] [] (.list (xss.flatten.map frm)) [] := by
 refine fi234.os ?_
 ((refine Sg.h ?_); try repeat' ((first | (with_reducible first | refine brA ?_ | refine brE fun _ => ?_ | (refine spl ⟨?_, ?_⟩ <;> intro _))) <;> ((try simp -implicitDefEqProofs); (try simp -implicitDefEqProofs (disch := first | assumption | (try simp only [lens]); omega -splitDisjunctions)))))
 refine W_of fun Q hQ => ?_
 have main : ∀ n i, i + n = xss.length → Q [(0, .list (xss.map fun xs => [.list (xs.map frm)])), (3, .int .i64 ((xss.take i).flatten.length : Int)), (9, .list (xss.map fun xs => [.list (xs.map frm)])), (10, .int .i64 (xss.length : Int)), (11, .int .i64 (i : Int))] [] := by
  intro n
  induction n with
  | zero =>
   intro i hi
   obtain rfl : i = xss.length := by omega
   rw [List.take_length]
   have hg := Grow_bag xss.flatten.length ht
   have hg0 := Grow_bag0
   rcases Nat.eq_zero_or_pos xss.flatten.length with h0 | h0
   ·rw [h0]
    apply hQ
    clear hQ
    ((refine Sg.h ?_); try repeat' ((first | (with_reducible first | refine brA ?_ | refine brE fun _ => ?_ | (refine spl ⟨?_, ?_⟩ <;> intro _)) | refine clo hg0 ?_) <;> ((try simp -implicitDefEqProofs); (try simp -implicitDefEqProofs (disch := first | assumption | (try simp only [lens]); omega -splitDisjunctions)))))
    refine W_of fun Q hQ => ?_
    have main : ∀ n i rest, i + n = xss.length → Q [(6, .sl 0 0 (xss.take i).flatten.length), (25, .list (xss.map fun xs => [.list (xs.map frm)])), (26, .int .i64 (xss.length : Int)), (27, .int .i64 (i : Int))] [.rows 3 ((xss.take i).flatten.map frm ++ rest)] := by
     intro n
     induction n with
     | zero =>
      intro i rest hi
      obtain rfl : i = xss.length := by omega
      rw [List.take_length]
      have hLm : (xss.map (List.map frm)).flatten = xss.flatten.map frm := by simp [List.map_flatten]
      generalize xss.flatten = L at *
      apply hQ
      clear hQ
      ((refine Sg.h ?_); try repeat' ((first | (with_reducible first | refine brA ?_ | refine brE fun _ => ?_ | (refine spl ⟨?_, ?_⟩ <;> intro _))) <;> ((try simp -implicitDefEqProofs [hLm]); (try simp -implicitDefEqProofs (disch := first | assumption | (try simp only [lens]); omega -splitDisjunctions) [hLm]))))
     | succ n ih =>
      intro i rest hi
      have hil : i < xss.length := by omega
      have ih := ih (i + 1) [] (by omega)
      have hle := flat_len_le xss (i + 1)
      rw [take_snoc hil, List.flatten_append] at ih hle
      simp only [List.flatten_cons, List.flatten_nil, List.append_nil] at ih hle
      rw [List.length_append] at hle
      generalize (xss.take i).flatten = T at *
      apply hQ
      clear hQ
      ((refine Sg.h ?_); try repeat' ((first | (with_reducible first | refine brA ?_ | refine brE fun _ => ?_ | (refine spl ⟨?_, ?_⟩ <;> intro _))) <;> ((try simp -implicitDefEqProofs [hil]); (try simp -implicitDefEqProofs (disch := first | assumption | (try simp only [lens]); omega -splitDisjunctions) [hil]))))
      all_goals first | exact ih | (refine at2 ih ?_ ?_ <;> simp; done) | (exfalso; first | omega | (simp_all; done) | (simp_all; omega))
    have m0 := main xss.length 0 [] (by omega)
    all_goals first | exact m0 | (refine at2 m0 ?_ ?_ <;> simp; done) | (exfalso; first | omega | (simp_all; done) | (simp_all; omega))
   ·have hg := hg h0
    generalize hT : xss.flatten.length = T at *
    apply hQ
    clear hQ
    ((refine Sg.h ?_); try repeat' ((first | (with_reducible first | refine brA ?_ | refine brE fun _ => ?_ | (refine spl ⟨?_, ?_⟩ <;> intro _))) <;> ((try simp -implicitDefEqProofs); (try simp -implicitDefEqProofs (disch := first | assumption | (try simp only [lens]); omega -splitDisjunctions)))))
    refine CL.of hg ?_
    ((refine Sg.h ?_); try repeat' ((first | (with_reducible first | refine brA ?_ | refine brE fun _ => ?_ | (refine spl ⟨?_, ?_⟩ <;> intro _))) <;> ((try simp -implicitDefEqProofs); (try simp -implicitDefEqProofs (disch := first | assumption | (try simp only [lens]); omega -splitDisjunctions)))))
    refine W_of fun Q hQ => ?_
    have main : ∀ n i rest, i + n = xss.length → Q [(6, .sl 0 0 (xss.take i).flatten.length), (25, .list (xss.map fun xs => [.list (xs.map frm)])), (26, .int .i64 (xss.length : Int)), (27, .int .i64 (i : Int))] [.rows 3 ((xss.take i).flatten.map frm ++ rest)] := by
     intro n
     induction n with
     | zero =>
      intro i rest hi
      obtain rfl : i = xss.length := by omega
      rw [List.take_length]
      have hLm : (xss.map (List.map frm)).flatten = xss.flatten.map frm := by simp [List.map_flatten]
      generalize xss.flatten = L at *
      apply hQ
      clear hQ
      ((refine Sg.h ?_); try repeat' ((first | (with_reducible first | refine brA ?_ | refine brE fun _ => ?_ | (refine spl ⟨?_, ?_⟩ <;> intro _))) <;> ((try simp -implicitDefEqProofs [hLm]); (try simp -implicitDefEqProofs (disch := first | assumption | (try simp only [lens]); omega -splitDisjunctions) [hLm]))))
     | succ n ih =>
      intro i rest hi
      have hil : i < xss.length := by omega
      have ih := ih (i + 1) [] (by omega)
      have hle := flat_len_le xss (i + 1)
      rw [take_snoc hil, List.flatten_append] at ih hle
      simp only [List.flatten_cons, List.flatten_nil, List.append_nil] at ih hle
      rw [List.length_append] at hle
      generalize (xss.take i).flatten = T at *
      apply hQ
      clear hQ
      ((refine Sg.h ?_); try repeat' ((first | (with_reducible first | refine brA ?_ | refine brE fun _ => ?_ | (refine spl ⟨?_, ?_⟩ <;> intro _))) <;> ((try simp -implicitDefEqProofs [hil]); (try simp -implicitDefEqProofs (disch := first | assumption | (try simp only [lens]); omega -splitDisjunctions) [hil]))))
      all_goals first | exact ih | (refine at2 ih ?_ ?_ <;> simp; done) | (exfalso; first | omega | (simp_all; done) | (simp_all; omega))
    have m0 := main xss.length 0 (List.replicate T [.int .i64 0, .str ⟨#[]⟩, .nilsl]) (by omega)
    all_goals first | exact m0 | (refine at2 m0 ?_ ?_ <;> simp; done) | (exfalso; first | omega | (simp_all; done) | (simp_all; omega))
  | succ n ih =>
   intro i hi
   have hil : i < xss.length := by omega
   have ih := ih (i + 1) (by omega)
   rw [take_snoc hil, List.flatten_append, List.length_append] at ih
   simp only [List.flatten_cons, List.flatten_nil, List.append_nil] at ih
   have hle : ((xss.take i).flatten.length : Int) + (xss[i].length : Int) ≤ 1000000 := by
    have := flat_len_le xss (i + 1)
    rw [take_snoc hil, List.flatten_append, List.length_append] at this
    simp only [List.flatten_cons, List.flatten_nil, List.append_nil] at this
    omega
   generalize (xss.take i).flatten.length = T at *
   apply hQ
   clear hQ
   ((refine Sg.h ?_); try repeat' ((first | (with_reducible first | refine brA ?_ | refine brE fun _ => ?_ | (refine spl ⟨?_, ?_⟩ <;> intro _))) <;> ((try simp -implicitDefEqProofs [hil]); (try simp -implicitDefEqProofs (disch := first | assumption | (try simp only [lens]); omega -splitDisjunctions) [hil]))))
   all_goals first | exact ih | (refine at2 ih ?_ ?_ <;> simp; done) | (exfalso; first | omega | (simp_all; done) | (simp_all; omega))
 all_goals first | exact main _ 0 (Nat.zero_add _) | (refine at2 main _ 0 (Nat.zero_add _) ?_ ?_ <;> simp; done) | (exfalso; first | omega | (simp_all; done) | (simp_all; omega))
end Go.Proofs.Ytkadceiolddmhaa
