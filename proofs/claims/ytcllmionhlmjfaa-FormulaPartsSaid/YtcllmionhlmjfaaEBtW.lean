import Derived.Test.YtcllmionhlmjfaaEPvRec
import Derived.Test.YtcllmionhlmjfaaEQMA
import Derived.Test.YtcllmionhlmjfaaENmP
import Derived.Test.YtcllmionhlmjfaaEQRF
set_option linter.unusedVariables false
set_option linter.unusedSimpArgs false
set_option maxRecDepth 100000
set_option maxHeartbeats 4000000
namespace Go.Proofs.Ytcllmionhlmjfaa
open Go Go.Pv
def x38_L0 : XC := .seq (.seq (.reg [⟨some 6,.move (.tmp 5),none⟩,⟨some 7,.move (.tmp 0),none⟩,⟨some 8,.call ⟨.builtin .len,#[.tmp 7],#[65]⟩,none⟩,⟨some 9,.binOp .lss 3 (.tmp 6) (.tmp 8) 3,none⟩]) (.cond (.tmp 9) .skip (.exit 0))) (.seq (.block 1 (.seq (.reg [⟨some 12,.move (.tmp 0),none⟩,⟨some 13,.move (.tmp 5),none⟩,⟨some 14,.indexAddr 65 (.tmp 12) (.tmp 13),none⟩,⟨some 15,.load 9 (.tmp 14),none⟩,⟨some 16,.move (.tmp 1),none⟩,⟨some 17,.binOp .eql 9 (.tmp 15) (.tmp 16) 9,none⟩]) (.cond (.tmp 17) (.seq (.reg [⟨some 4,.assign (.const (.bool true)),none⟩]) .ret) .skip))) (.reg [⟨some 10,.move (.tmp 5),none⟩,⟨some 11,.binOp .add 3 (.tmp 10) (.const (.int .i64 1)) 3,none⟩,⟨some 5,.assign (.tmp 11),none⟩]))
def x38 : XC := .seq (.reg [⟨some 4,.assign (.const (.bool false)),none⟩]) (.seq (.seq (.reg [⟨some 5,.assign (.const (.int .i64 0)),none⟩]) (.bloop 0 x38_L0)) (.seq (.reg [⟨some 4,.assign (.const (.bool false)),none⟩]) .ret))
@[simp] theorem x38_s {C e s K} : type_of% (@X_at C e s K _ _ x38_L0.eq_1) ∧ type_of% (@X_at C e s K _ _ x38.eq_1) := ⟨X_at x38_L0.eq_1, X_at x38.eq_1⟩
def an38 : Ann := ⟨[], [(0, [], [0, 1, 5], [4])], []⟩
@[simp] theorem an38_a : an38.loopOf 0 = ([], [0, 1, 5], [4]) := rfl
theorem fi38 : FI Try.prog 38 (cxA an38) x38 [.tmp 4] Try.f38 := fiA Try.func38 mixed
theorem HasText_ref (l : List ByteArray) (u : ByteArray) : CallOK Try.prog 38 [.list (l.map strRow), .str u] [] (.bool (memB u l)) [] := by
 refine fi38.op ?_
 ((refine Sg.h ?_); try repeat' ((first | (with_reducible first | refine brA ?_ | refine brE fun _ => ?_ | (refine spl ⟨?_, ?_⟩ <;> intro _))) <;> ((try simp -implicitDefEqProofs); (try simp -implicitDefEqProofs (disch := first | assumption | (try simp only [lens]); omega -splitDisjunctions)))))
 refine W_of fun Q hQ => ?_
 have main : ∀ n i, i + n = l.length → (∀ j (h : j < l.length), j < i → l[j] ≠ u) → Q [(0, .list (l.map strRow)), (1, .str u), (5, .int .i64 (i : Int))] [] := by
  intro n
  induction n with
  | zero =>
   intro i hi hl
   have hno : memB u l = false := by
    rw [Bool.eq_false_iff, Ne, memB_iff]
    intro h
    obtain ⟨j, hj, e⟩ := List.mem_iff_getElem.1 h
    exact hl j hj (by omega) e
   apply hQ
   ((refine Sg.h ?_); try repeat' ((first | (with_reducible first | refine brA ?_ | refine brE fun _ => ?_ | (refine spl ⟨?_, ?_⟩ <;> intro _))) <;> ((try simp -implicitDefEqProofs); (try simp -implicitDefEqProofs (disch := first | assumption | (try simp only [lens]); omega -splitDisjunctions)))))
   all_goals simp [hno]
  | succ n ih =>
   intro i hi hl
   have hlt : i < l.length := by omega
   by_cases hb : l[i] = u
   ·have hyes : memB u l = true := memB_iff.2 (hb ▸ List.getElem_mem hlt)
    apply hQ
    ((refine Sg.h ?_); try repeat' ((first | (with_reducible first | refine brA ?_ | refine brE fun _ => ?_ | (refine spl ⟨?_, ?_⟩ <;> intro _))) <;> ((try simp -implicitDefEqProofs); (try simp -implicitDefEqProofs (disch := first | assumption | (try simp only [lens]); omega -splitDisjunctions)))))
    all_goals simp_all
   ·have ih := ih (i + 1) (by omega) (fun j hj hji => by
     by_cases e : j = i
     ·subst e; exact hb
     ·exact hl j hj (by omega))
    apply hQ
    ((refine Sg.h ?_); try repeat' ((first | (with_reducible first | refine brA ?_ | refine brE fun _ => ?_ | (refine spl ⟨?_, ?_⟩ <;> intro _))) <;> ((try simp -implicitDefEqProofs); (try simp -implicitDefEqProofs (disch := first | assumption | (try simp only [lens]); omega -splitDisjunctions)))))
    all_goals first | (exfalso; simp_all; done) | simpa using ih
 refine at2 (main _ 0 (Nat.zero_add _) (fun j h hj => by omega)) ?_ ?_ <;> simp
end Go.Proofs.Ytcllmionhlmjfaa
namespace Go.Proofs.Ytcllmionhlmjfaa
open Go Go.Pv
def varsL (l : List Fm) : List ByteArray := (l.filter fun x => decide (x.kind = 1)).map Fm.name
theorem varsL_append (a b : List Fm) : varsL (a ++ b) = varsL a ++ varsL b := by simp [varsL]
theorem varsL_le (l : List Fm) : (varsL l).length ≤ l.length := by
 unfold varsL; rw [List.length_map]; exact List.length_filter_le _ _
theorem nodesGo_len (M : Nat) : ∀ (n : Nat) (st : List Fm), (nodesGo M n st).length ≤ n
 | 0, st => by simp [nodesGo]
 | n + 1, [] => by simp [nodesGo]
 | n + 1, x :: r => by rw [nodesGo_succ]; have := nodesGo_len M n (x.kids.take M ++ r); simp; omega
def varsS (l : List Fm) : List ByteArray := varsL (l.flatMap fun f => nodesGo 200 200 [f])
theorem varsS_snoc (l : List Fm) (f : Fm) : varsS (l ++ [f]) = varsS l ++ varsL (nodesGo 200 200 [f]) := by simp [varsS, varsL_append]
theorem varsS_len : ∀ (l : List Fm), (varsS l).length ≤ 200 * l.length
 | [] => by simp [varsS, varsL]
 | f :: r => by
  have h1 := varsS_len r
  have h2 := Nat.le_trans (varsL_le _) (nodesGo_len 200 200 [f])
  have e : varsS (f :: r) = varsL (nodesGo 200 200 [f]) ++ varsS r := by simp [varsS, varsL_append]
  rw [e, List.length_append, List.length_cons]; omega
def x76_T2 : XC := .seq (.reg [⟨some 31,.move (.tmp 3),none⟩,⟨some 32,.call ⟨.value (.func 103),#[.tmp 31],#[65]⟩,none⟩]) (.seq (.reg [⟨some 33,.move (.tmp 3),none⟩,⟨some 34,.call ⟨.value (.func 104),#[.tmp 33],#[65]⟩,none⟩,⟨some 2,.assign (.tmp 34),none⟩]) .ret)
def x76_L2 : XC := .seq (.reg [⟨some 18,.binOp .lss 3 (.tmp 17) (.tmp 16) 3,none⟩]) (.seq (.cond (.tmp 18) .skip (.exit 2)) (.seq (.block 3 (.seq (.reg [⟨some 19,.indexAddr 22 (.tmp 15) (.tmp 17),none⟩,⟨some 20,.load 24 (.tmp 19),none⟩,⟨some 7,.alloc 24,none⟩,⟨none,.store 24 (.tmp 7) (.tmp 20),none⟩]) (.seq (.reg [⟨some 21,.fieldAddr 24 (.tmp 7) 0,none⟩,⟨some 22,.load 3 (.tmp 21),none⟩,⟨some 23,.binOp .eql 3 (.tmp 22) (.const (.int .i64 1)) 3,none⟩]) (.cond (.tmp 23) (.reg [⟨some 24,.move (.tmp 3),none⟩,⟨some 25,.fieldAddr 24 (.tmp 7) 1,none⟩,⟨some 26,.load 9 (.tmp 25),none⟩,⟨some 27,.buildSlice 65 1 #[(0,.tmp 26)],none⟩,⟨some 28,.call ⟨.builtin .append,#[.tmp 24,.tmp 27],#[65,65]⟩,none⟩,⟨some 3,.assign (.tmp 28),none⟩]) .skip)))) (.reg [⟨some 29,.binOp .add 3 (.tmp 17) (.const (.int .i64 1)) 3,none⟩,⟨some 17,.move (.tmp 29),none⟩])))
def x76_L0 : XC := .seq (.reg [⟨some 11,.binOp .lss 3 (.tmp 10) (.tmp 9) 3,none⟩]) (.seq (.cond (.tmp 11) .skip (.exit 0)) (.seq (.block 1 (.seq (.reg [⟨some 12,.indexAddr 22 (.tmp 8) (.tmp 10),none⟩,⟨some 13,.load 24 (.tmp 12),none⟩,⟨some 5,.alloc 24,none⟩,⟨none,.store 24 (.tmp 5) (.tmp 13),none⟩]) (.seq (.reg [⟨some 14,.load 24 (.tmp 5),none⟩,⟨some 15,.call ⟨.value (.func 48),#[.tmp 14,.const (.int .i64 200)],#[24,3]⟩,none⟩,⟨some 16,.call ⟨.builtin .len,#[.tmp 15],#[22]⟩,none⟩,⟨some 17,.move (.const (.int .i64 0)),none⟩]) (.bloop 2 x76_L2)))) (.reg [⟨some 30,.binOp .add 3 (.tmp 10) (.const (.int .i64 1)) 3,none⟩,⟨some 10,.move (.tmp 30),none⟩])))
def x76 : XC := .seq (.reg [⟨some 2,.assign (.const (.slice none 0 0)),none⟩]) (.seq (.reg [⟨some 3,.assign (.const (.slice none 0 0)),none⟩]) (.seq (.seq (.reg [⟨some 8,.move (.tmp 0),none⟩,⟨some 9,.call ⟨.builtin .len,#[.tmp 8],#[22]⟩,none⟩,⟨some 10,.move (.const (.int .i64 0)),none⟩]) (.bloop 0 x76_L0)) (x76_T2)))
@[simp] theorem x76_s {C e s K} : type_of% (@X_at C e s K _ _ x76_T2.eq_1) ∧ type_of% (@X_at C e s K _ _ x76_L2.eq_1) ∧ type_of% (@X_at C e s K _ _ x76_L0.eq_1) ∧ type_of% (@X_at C e s K _ _ x76.eq_1) := ⟨X_at x76_T2.eq_1, X_at x76_L2.eq_1, X_at x76_L0.eq_1, X_at x76.eq_1⟩
def an76 : Ann := ⟨[], [(2, [(3, none, 1)], [3, 8, 9, 10, 15, 16, 17], [3, 8, 9, 10]), (0, [(3, none, 1)], [3, 8, 9, 10], [3])], []⟩
@[simp] theorem an76_a : an76.loopOf 2 = ([(3, none, 1)], [3, 8, 9, 10, 15, 16, 17], [3, 8, 9, 10]) ∧ an76.loopOf 0 = ([(3, none, 1)], [3, 8, 9, 10], [3]) := ⟨rfl, rfl⟩
theorem fi76 : FI Try.prog 76 (cxA an76) x76 [.tmp 2] Try.f76 := fiA Try.func76 mixed
theorem callOK_done {P : Program} {f : FuncId} {args : List PV} {v v' : PV} {s1 : Store} (h : CallOK P f args [] v s1) (e : deref s1 6 v = v') : CallOK P f args [] v' [] := by
 intro pub σ w cargs hb ha
 refine Calls.mono (h pub σ w cargs hb ha) ?_
 rintro en w' ⟨cv, pub', σ', rfl, hs, hr⟩
 have hσ : σ = noSig := funext fun i => hb.sig i (Nat.zero_le _)
 obtain ⟨p, t, h1, h2⟩ := RetView.done 6 e ⟨w, pub, σ, dom [] σ⟩ pub' σ' w' cv (fun i _ => by rw [hσ]; rfl) hs hr
 exact ⟨cv, p, t, rfl, h1, h2⟩
def namesS (l : List Fm) : List ByteArray := compL (sortL (varsS l))
def restS (l : List Fm) : List ByteArray := List.replicate ((varsS l).length - (namesS l).length) ⟨#[]⟩
theorem own_take {C R : List ByteArray} : deref [.rows 1 ((C ++ R).map strRow)] 6 (.sl 0 0 C.length) = .list (C.map strRow) := by
 simp
theorem names_own (l : List Fm) (hl : l.length ≤ 1000) : CallOK Try.prog 76 [.list (l.map frm)] [] (.sl 0 0 (namesS l).length) [.rows 1 ((namesS l ++ restS l).map strRow)] := by
 unfold restS namesS
 refine fi76.og ?_
 ((refine Sg.h ?_); try repeat' ((first | (with_reducible first | refine brA ?_ | refine brE fun _ => ?_ | (refine spl ⟨?_, ?_⟩ <;> intro _))) <;> ((try simp -implicitDefEqProofs); (try simp -implicitDefEqProofs (disch := first | assumption | (try simp only [lens]); omega -splitDisjunctions)))))
 refine W_of fun Q hQ => ?_
 have outer : ∀ r i, i + r = l.length → Q [(3, .sl 0 0 (varsS (l.take i)).length), (8, .list (l.map frm)), (9, .int .i64 (l.length : Int)), (10, .int .i64 (i : Int))] [.rows 1 ((varsS (l.take i)).map strRow)] := by
  intro r
  induction r with
  | zero =>
   intro i hi
   obtain rfl : i = l.length := by omega
   rw [List.take_length]
   have hvl := varsS_len l
   have hcl := compL_length (sortL (varsS l))
   rw [sortL_length] at hcl
   generalize varsS l = V at *
   apply hQ
   clear hQ
   ((refine Sg.h ?_); try repeat' ((first | (with_reducible first | refine brA ?_ | refine brE fun _ => ?_ | (refine spl ⟨?_, ?_⟩ <;> intro _))) <;> ((try simp -implicitDefEqProofs); (try simp -implicitDefEqProofs (disch := first | assumption | (try simp only [lens]); omega -splitDisjunctions)))))
   refine CL.of (sort_strs' V rfl rfl (by omega)) ?_
   ((refine Sg.h ?_); try repeat' ((first | (with_reducible first | refine brA ?_ | refine brE fun _ => ?_ | (refine spl ⟨?_, ?_⟩ <;> intro _))) <;> ((try simp -implicitDefEqProofs); (try simp -implicitDefEqProofs (disch := first | assumption | (try simp only [lens]); omega -splitDisjunctions)))))
   refine CL.of (compact_strs' (sortL V) rfl (sortL_length V) (by omega)) ?_
   generalize compL (sortL V) = C at *
   ((refine Sg.h ?_); try repeat' ((first | (with_reducible first | refine brA ?_ | refine brE fun _ => ?_ | (refine spl ⟨?_, ?_⟩ <;> intro _))) <;> ((try simp -implicitDefEqProofs); (try simp -implicitDefEqProofs (disch := first | assumption | (try simp only [lens]); omega -splitDisjunctions)))))
  | succ r ihr =>
   intro i hi
   have hil : i < l.length := by omega
   have ihr := ihr (i + 1) (by omega)
   rw [take_snoc hil, varsS_snoc] at ihr
   have hn := nodes_formula l[i] 200 (by decide) []
   have hL : (nodesGo 200 200 [l[i]]).length ≤ 200 := nodesGo_len 200 200 [l[i]]
   have hvl := varsS_len (l.take i)
   rw [List.length_take] at hvl
   generalize nodesGo 200 200 [l[i]] = L at *
   generalize varsS (l.take i) = V0 at *
   apply hQ
   clear hQ
   ((refine Sg.h ?_); try repeat' ((first | (with_reducible first | refine brA ?_ | refine brE fun _ => ?_ | (refine spl ⟨?_, ?_⟩ <;> intro _)) | refine clo hn ?_) <;> ((try simp -implicitDefEqProofs [hil]); (try simp -implicitDefEqProofs (disch := first | assumption | (try simp only [lens]); omega -splitDisjunctions) [hil]))))
   refine W_of fun Q2 hQ2 => ?_
   have main : ∀ k j, j + k = L.length → Q2 [(3, .sl 0 0 (V0 ++ varsL (L.take j)).length), (8, .list (l.map frm)), (9, .int .i64 (l.length : Int)), (10, .int .i64 (i : Int)), (15, .list (L.map frm)), (16, .int .i64 (L.length : Int)), (17, .int .i64 (j : Int))] [.rows 1 ((V0 ++ varsL (L.take j)).map strRow)] := by
    intro k
    induction k with
    | zero =>
     intro j hj
     obtain rfl : j = L.length := by omega
     rw [List.take_length]
     generalize V0 ++ varsL L = V1 at *
     apply hQ2
     clear hQ2 hn
     ((refine Sg.h ?_); try repeat' ((first | (with_reducible first | refine brA ?_ | refine brE fun _ => ?_ | (refine spl ⟨?_, ?_⟩ <;> intro _))) <;> ((try simp -implicitDefEqProofs); (try simp -implicitDefEqProofs (disch := first | assumption | (try simp only [lens]); omega -splitDisjunctions)))))
     all_goals first | exact ihr | (refine at2 ihr ?_ ?_ <;> simp; done) | (exfalso; first | omega | (simp_all; done) | (simp_all; omega))
    | succ k ih =>
     intro j hj
     have hjL : j < L.length := by omega
     have ih := ih (j + 1) (by omega)
     have hvi := varsL_le (L.take j)
     rw [List.length_take] at hvi
     rw [take_snoc hjL, varsL_append, ← List.append_assoc] at ih
     have hv1 : varsL [L[j]] = if L[j].kind = 1 then [L[j].name] else [] := by unfold varsL; rw [List.filter_cons, List.filter_nil]; split <;> simp_all
     rw [hv1] at ih
     have hV : (V0 ++ varsL (L.take j)).length ≤ 200 * l.length + 200 := by rw [List.length_append]; omega
     clear ihr hn hv1 hvl hvi
     generalize V0 ++ varsL (L.take j) = V at *
     apply hQ2
     clear hQ2
     by_cases hk : L[j].kind = 1
     ·simp only [hk, if_true] at ih
      ((refine Sg.h ?_); try repeat' ((first | (with_reducible first | refine brA ?_ | refine brE fun _ => ?_ | (refine spl ⟨?_, ?_⟩ <;> intro _))) <;> ((try simp -implicitDefEqProofs [hjL, hk]); (try simp -implicitDefEqProofs (disch := first | assumption | (try simp only [lens]); omega -splitDisjunctions) [hjL, hk]))))
      all_goals first | exact ih | (refine at2 ih ?_ ?_ <;> simp [strRow]; done) | (exfalso; first | omega | (simp_all; done) | (simp_all; omega))
     ·simp only [hk, if_false, List.append_nil] at ih
      ((refine Sg.h ?_); try repeat' ((first | (with_reducible first | refine brA ?_ | refine brE fun _ => ?_ | (refine spl ⟨?_, ?_⟩ <;> intro _))) <;> ((try simp -implicitDefEqProofs [hjL, hk]); (try simp -implicitDefEqProofs (disch := first | assumption | (try simp only [lens]); omega -splitDisjunctions) [hjL, hk]))))
      all_goals first | exact ih | (refine at2 ih ?_ ?_ <;> simp [strRow]; done) | (exfalso; first | omega | (simp_all; done) | (simp_all; omega))
   refine at2 (main _ 0 (Nat.zero_add _)) ?_ ?_ <;> simp [varsL]
 refine at2 (outer _ 0 (Nat.zero_add _)) ?_ ?_ <;> simp [varsS, varsL]
theorem names_formula (l : List Fm) (hl : l.length ≤ 1000) : CallOK Try.prog 76 [.list (l.map frm)] [] (.list ((namesS l).map strRow)) [] := callOK_done (names_own l hl) own_take
theorem less_eq (a b : ByteArray) : Op.bytesLess a.toList b.toList = decide (toL a < toL b) := by
 rw [Go.Proofs.bytesLess_eq, ByteArray.toList_eq, ByteArray.toList_eq]; rfl
def varsW (l : List Fm) : List ByteArray := varsL (l.flatMap fun f => walkL f 100000)
theorem varsW_snoc (l : List Fm) (f : Fm) : varsW (l ++ [f]) = varsW l ++ varsL (walkL f 100000) := by simp [varsW, varsL_append]
theorem varsW_len : ∀ (l : List Fm), (varsW l).length ≤ 100001 * l.length
 | [] => by simp [varsW, varsL]
 | f :: r => by
  have h1 := varsW_len r
  have h2 := varsL_le (walkL f 100000)
  have h3 := (walk_len f 100000 (by decide)).2
  have e : varsW (f :: r) = varsL (walkL f 100000) ++ varsW r := by simp [varsW, varsL_append]
  rw [e, List.length_append, List.length_cons]; omega
def x41_T4 : XC := .seq (.reg [⟨some 72,.move (.tmp 3),none⟩,⟨some 2,.assign (.tmp 72),none⟩]) .ret
def x41_T3 : XC := .drawn 13 [⟨some 58,.move (.tmp 3),none⟩,⟨some 59,.move (.tmp 7),none⟩,⟨some 60,.slice 65 (.tmp 58) none (some (.tmp 59)) none,none⟩,⟨some 61,.move (.tmp 5),none⟩,⟨some 62,.move (.tmp 6),none⟩,⟨some 63,.indexAddr 22 (.tmp 61) (.tmp 62),none⟩,⟨some 64,.fieldAddr 24 (.tmp 63) 1,none⟩,⟨some 65,.load 9 (.tmp 64),none⟩,⟨some 66,.buildSlice 65 1 #[(0,.tmp 65)],none⟩,⟨some 67,.move (.tmp 3),none⟩,⟨some 68,.move (.tmp 7),none⟩,⟨some 69,.slice 65 (.tmp 67) (some (.tmp 68)) none none,none⟩,⟨some 70,.call ⟨.builtin .append,#[.tmp 66,.tmp 69],#[65,65]⟩,none⟩,⟨some 71,.call ⟨.builtin .append,#[.tmp 60,.tmp 70],#[65,65]⟩,none⟩,⟨some 3,.assign (.tmp 71),none⟩]
def x41_L4 : XC := .seq (.seq (.drawn 11 [⟨some 40,.move (.tmp 7),none⟩,⟨some 41,.move (.tmp 3),none⟩,⟨some 42,.call ⟨.builtin .len,#[.tmp 41],#[65]⟩,none⟩,⟨some 43,.binOp .lss 3 (.tmp 40) (.tmp 42) 3,none⟩,⟨some 44,.move (.tmp 43),none⟩,⟨some 45,.move (.tmp 3),some (some 44,true)⟩,⟨some 46,.move (.tmp 7),some (some 44,true)⟩,⟨some 47,.indexAddr 65 (.tmp 45) (.tmp 46),some (some 44,true)⟩,⟨some 48,.load 9 (.tmp 47),some (some 44,true)⟩,⟨some 49,.move (.tmp 5),some (some 44,true)⟩,⟨some 50,.move (.tmp 6),some (some 44,true)⟩,⟨some 51,.indexAddr 22 (.tmp 49) (.tmp 50),some (some 44,true)⟩,⟨some 52,.fieldAddr 24 (.tmp 51) 1,some (some 44,true)⟩,⟨some 53,.load 9 (.tmp 52),some (some 44,true)⟩,⟨some 54,.binOp .lss 9 (.tmp 48) (.tmp 53) 9,some (some 44,true)⟩,⟨some 55,.pick (.tmp 44) (.tmp 54) (.const (.bool false)),none⟩]) (.cond (.tmp 55) .skip (.exit 4))) (.block 5 (.reg [⟨some 56,.move (.tmp 7),none⟩,⟨some 57,.binOp .add 3 (.tmp 56) (.const (.int .i64 1)) 3,none⟩,⟨some 7,.assign (.tmp 57),none⟩]))
def x41_L2 : XC := .seq (.seq (.reg [⟨some 19,.move (.tmp 6),none⟩,⟨some 20,.move (.tmp 5),none⟩,⟨some 21,.call ⟨.builtin .len,#[.tmp 20],#[22]⟩,none⟩,⟨some 22,.binOp .lss 3 (.tmp 19) (.tmp 21) 3,none⟩]) (.cond (.tmp 22) .skip (.exit 2))) (.seq (.block 3 (.seq (.seq (.reg [⟨some 25,.move (.tmp 5),none⟩,⟨some 26,.move (.tmp 6),none⟩,⟨some 27,.indexAddr 22 (.tmp 25) (.tmp 26),none⟩,⟨some 28,.fieldAddr 24 (.tmp 27) 0,none⟩,⟨some 29,.load 3 (.tmp 28),none⟩,⟨some 30,.binOp .neq 3 (.tmp 29) (.const (.int .i64 1)) 3,none⟩,⟨some 31,.move (.tmp 30),none⟩,⟨some 32,.move (.tmp 3),some (some 31,false)⟩,⟨some 33,.move (.tmp 5),some (some 31,false)⟩,⟨some 34,.move (.tmp 6),some (some 31,false)⟩,⟨some 35,.indexAddr 22 (.tmp 33) (.tmp 34),some (some 31,false)⟩,⟨some 36,.fieldAddr 24 (.tmp 35) 1,some (some 31,false)⟩,⟨some 37,.load 9 (.tmp 36),some (some 31,false)⟩,⟨some 38,.call ⟨.value (.func 38),#[.tmp 32,.tmp 37],#[65,9]⟩,some (some 31,false)⟩,⟨some 39,.pick (.tmp 31) (.const (.bool true)) (.tmp 38),none⟩]) (.cond (.tmp 39) (.exit 3) .skip)) (.seq (.reg [⟨some 7,.assign (.const (.int .i64 0)),none⟩]) (.seq (.bloop 4 x41_L4) (x41_T3))))) (.reg [⟨some 23,.move (.tmp 6),none⟩,⟨some 24,.binOp .add 3 (.tmp 23) (.const (.int .i64 1)) 3,none⟩,⟨some 6,.assign (.tmp 24),none⟩]))
def x41_L0 : XC := .seq (.seq (.reg [⟨some 8,.move (.tmp 4),none⟩,⟨some 9,.move (.tmp 0),none⟩,⟨some 10,.call ⟨.builtin .len,#[.tmp 9],#[22]⟩,none⟩,⟨some 11,.binOp .lss 3 (.tmp 8) (.tmp 10) 3,none⟩]) (.cond (.tmp 11) .skip (.exit 0))) (.seq (.block 1 (.seq (.reg [⟨some 14,.move (.tmp 0),none⟩,⟨some 15,.move (.tmp 4),none⟩,⟨some 16,.indexAddr 22 (.tmp 14) (.tmp 15),none⟩,⟨some 17,.load 24 (.tmp 16),none⟩,⟨some 18,.call ⟨.value (.func 47),#[.tmp 17,.const (.int .i64 100000)],#[24,3]⟩,none⟩,⟨some 5,.assign (.tmp 18),none⟩]) (.seq (.reg [⟨some 6,.assign (.const (.int .i64 0)),none⟩]) (.bloop 2 x41_L2)))) (.reg [⟨some 12,.move (.tmp 4),none⟩,⟨some 13,.binOp .add 3 (.tmp 12) (.const (.int .i64 1)) 3,none⟩,⟨some 4,.assign (.tmp 13),none⟩]))
def x41 : XC := .seq (.reg [⟨some 2,.assign (.const (.slice none 0 0)),none⟩]) (.seq (.reg [⟨some 3,.assign (.const (.slice none 0 0)),none⟩]) (.seq (.seq (.reg [⟨some 4,.assign (.const (.int .i64 0)),none⟩]) (.bloop 0 x41_L0)) (x41_T4)))
@[simp] theorem x41_s {C e s K} : type_of% (@X_at C e s K _ _ x41_T4.eq_1) ∧ type_of% (@X_at C e s K _ _ x41_T3.eq_1) ∧ type_of% (@X_at C e s K _ _ x41_L4.eq_1) ∧ type_of% (@X_at C e s K _ _ x41_L2.eq_1) ∧ type_of% (@X_at C e s K _ _ x41_L0.eq_1) ∧ type_of% (@X_at C e s K _ _ x41.eq_1) := ⟨X_at x41_T4.eq_1, X_at x41_T3.eq_1, X_at x41_L4.eq_1, X_at x41_L2.eq_1, X_at x41_L0.eq_1, X_at x41.eq_1⟩
@[simp] def tr41_13 : MT := .op 0 (.op 1 (.op 2 (.op 3 (.op 4 (.op 5 (.op 6 (.op 7 (.op 9 (.op 10 (.op 11 (.op 8 (.ck 2 (.ck 11 (.op 12 (.ck 2 (.op 13 (.op 14 .fin)))))))))))))))))
def an41 : Ann := ⟨[(11, .mix 14), (13, .tree tr41_13)], [(4, [(3, none, 1)], [0, 3, 4, 5, 6, 7], [0, 3, 4, 5, 6, 7]), (2, [(3, none, 1)], [0, 3, 4, 5, 6], [0, 3, 4]), (0, [(3, none, 1)], [0, 3, 4], [3])], []⟩
@[simp] theorem an41_a : an41.clsOf 11 = .mix 14 ∧ an41.clsOf 13 = .tree tr41_13 ∧ an41.frzOf 11 = [] ∧ an41.frzOf 13 = [] ∧ an41.loopOf 4 = ([(3, none, 1)], [0, 3, 4, 5, 6, 7], [0, 3, 4, 5, 6, 7]) ∧ an41.loopOf 2 = ([(3, none, 1)], [0, 3, 4, 5, 6], [0, 3, 4]) ∧ an41.loopOf 0 = ([(3, none, 1)], [0, 3, 4], [3]) := ⟨rfl, rfl, rfl, rfl, rfl, rfl, rfl⟩
theorem fi41 : FI Try.prog 41 (cxA an41) x41 [.tmp 2] Try.f41 := fiA Try.func41 mixed
theorem NamesIn_ref (l : List Fm) (hl : l.length ≤ 100) : CallOK Try.prog 41 [.list (l.map frm)] [] (.list (((varsW l).foldl insR []).map strRow)) [] := by
 refine fi41.op ?_
 ((refine Sg.h ?_); try repeat' ((first | (with_reducible first | refine brA ?_ | refine brE fun _ => ?_ | (refine spl ⟨?_, ?_⟩ <;> intro _))) <;> ((try simp -implicitDefEqProofs); (try simp -implicitDefEqProofs (disch := first | assumption | (try simp only [lens]); omega -splitDisjunctions)))))
 refine W_of fun Q hQ => ?_
 have outer : ∀ r p, p + r = l.length → Q [(0, .list (l.map frm)), (3, .sl 0 0 ((varsW (l.take p)).foldl insR []).length), (4, .int .i64 (p : Int))] [.rows 1 (((varsW (l.take p)).foldl insR []).map strRow)] := by
  intro r
  induction r with
  | zero =>
  intro p hp
  obtain rfl : p = l.length := by omega
  rw [List.take_length]
  generalize (varsW l).foldl insR [] = A at *
  apply hQ
  clear hQ
  ((refine Sg.h ?_); try repeat' ((first | (with_reducible first | refine brA ?_ | refine brE fun _ => ?_ | (refine spl ⟨?_, ?_⟩ <;> intro _))) <;> ((try simp -implicitDefEqProofs); (try simp -implicitDefEqProofs (disch := first | assumption | (try simp only [lens]); omega -splitDisjunctions)))))
  | succ r ihr =>
  intro p hp
  have hpl : p < l.length := by omega
  have q1 := ihr (p + 1) (by omega)
  rw [take_snoc hpl, varsW_snoc, List.foldl_append] at q1
  have hw := walk_ref l[p] 100000 (by decide) (by decide) []
  have hwl := (walk_len l[p] 100000 (by decide)).2
  have hA0 := Nat.le_trans (ins_len (varsW (l.take p)) []) (by rw [List.length_nil, Nat.zero_add]; exact varsW_len _)
  rw [List.length_take] at hA0
  generalize (varsW (l.take p)).foldl insR [] = A0 at *
  generalize walkL l[p] 100000 = L at *
  apply hQ
  clear hQ
  ((refine Sg.h ?_); try repeat' ((first | (with_reducible first | refine brA ?_ | refine brE fun _ => ?_ | (refine spl ⟨?_, ?_⟩ <;> intro _)) | refine clo hw ?_) <;> ((try simp -implicitDefEqProofs [hpl]); (try simp -implicitDefEqProofs (disch := first | assumption | (try simp only [lens]); omega -splitDisjunctions) [hpl]))))
  refine W_of fun Q2 hQ2 => ?_
  have main : ∀ k i, i + k = L.length → Q2 [(0, .list (l.map frm)), (3, .sl 0 0 ((varsL (L.take i)).foldl insR A0).length), (4, .int .i64 (p : Int)), (5, .list (L.map frm)), (6, .int .i64 (i : Int))] [.rows 1 (((varsL (L.take i)).foldl insR A0).map strRow)] := by
   intro k
   induction k with
   | zero =>
    intro i hi
    obtain rfl : i = L.length := by omega
    rw [List.take_length]
    generalize (varsL L).foldl insR A0 = A at *
    apply hQ2
    clear hQ2 hw
    ((refine Sg.h ?_); try repeat' ((first | (with_reducible first | refine brA ?_ | refine brE fun _ => ?_ | (refine spl ⟨?_, ?_⟩ <;> intro _))) <;> ((try simp -implicitDefEqProofs); (try simp -implicitDefEqProofs (disch := first | assumption | (try simp only [lens]); omega -splitDisjunctions)))))
    all_goals first | exact q1 | (refine at2 q1 ?_ ?_ <;> simp; done) | (exfalso; first | omega | (simp_all; done) | (simp_all; omega))
   | succ k ih =>
    intro i hi
    have hiL : i < L.length := by omega
    have ih := ih (i + 1) (by omega)
    have hvi := varsL_le (L.take i)
    rw [List.length_take] at hvi
    rw [take_snoc hiL, varsL_append] at ih
    have hv1 : varsL [L[i]] = if L[i].kind = 1 then [L[i].name] else [] := by unfold varsL; rw [List.filter_cons, List.filter_nil]; split <;> simp_all
    rw [hv1, List.foldl_append] at ih
    have hAl := ins_len (varsL (L.take i)) A0
    clear q1 hw hv1
    generalize (varsL (L.take i)).foldl insR A0 = A at *
    have hAl : A.length ≤ 100001 * 101 := by omega
    have ht := HasText_ref A L[i].name
    apply hQ2
    clear hQ2
    by_cases hk : L[i].kind = 1
    ·simp only [hk, if_true, List.foldl_cons, List.foldl_nil] at ih
     cases hb : memB L[i].name A
     ·have hx : L[i].name ∉ A := fun h => by rw [memB_iff.2 h] at hb; cases hb
      rw [show insR A L[i].name = A.take (insAt A L[i].name) ++ L[i].name :: A.drop (insAt A L[i].name) from by unfold insR; rw [if_neg (fun h => hx (inB_iff.1 h))]] at ih
      rw [hb] at ht
      ((refine Sg.h ?_); try repeat' ((first | (with_reducible first | refine brA ?_ | refine brE fun _ => ?_ | (refine spl ⟨?_, ?_⟩ <;> intro _)) | (refine CL.see (ht) ?_ ?_ ?_; (focus (first | (simp; done) | (simp [scn]; done))); (focus (simp [flats]; done))) | (refine CD.see (ht) ?_ ?_ ?_; (focus (first | (simp; done) | (simp [scn]; done))); (focus (simp [flats]; done)))) <;> ((try simp -implicitDefEqProofs [hiL, hk]); (try simp -implicitDefEqProofs (disch := first | assumption | (try simp only [lens]); omega -splitDisjunctions) [hiL, hk]))))
      have hz := insAt_le A L[i].name
      have hzl := insAt_lt A L[i].name
      have hza := insAt_at A L[i].name
      generalize insAt A L[i].name = z at *
      refine W_of fun Q3 hQ3 => ?_
      have main : ∀ k a, a + k = z → Q3 [(0, .list (l.map frm)), (3, .sl 0 0 A.length), (4, .int .i64 (p : Int)), (5, .list (L.map frm)), (6, .int .i64 (i : Int)), (7, .int .i64 (a : Int))] [.rows 1 (A.map strRow)] := by
       intro k
       induction k with
       | zero =>
        intro a ha
        obtain rfl : a = z := by omega
        apply hQ3
        clear hQ3 ht hzl
        by_cases hal : a < A.length
        ·have hza := hza hal
         have hlt : Op.bytesLess A[a].toList L[i].name.toList = false := by rw [less_eq]; simpa using hza
         ((refine Sg.h ?_); try repeat' ((first | (with_reducible first | refine brA ?_ | refine brE fun _ => ?_ | (refine spl ⟨?_, ?_⟩ <;> intro _))) <;> ((try simp -implicitDefEqProofs [hiL, hal, hlt, strRow]); (try simp -implicitDefEqProofs (disch := first | assumption | (try simp only [lens]); omega -splitDisjunctions) [hiL, hal, hlt, strRow]))))
         have e1 : List.take (A.length - a) (List.drop a (List.map strRow A)) = (A.drop a).map strRow := by rw [← List.map_drop, List.take_of_length_le (by simp)]
         have e2 : List.take (1 + (A.length - a)) ([PV.str L[i].name] :: (A.drop a).map strRow) = [PV.str L[i].name] :: (A.drop a).map strRow := List.take_of_length_le (by simp; omega)
         rw [e1, e2]
         simp only [hz, if_true, TK_some, true_and]
         refine ⟨⟨fun row hr => ?_, by omega⟩, by omega, ⟨fun row hr => ?_, by omega⟩, at2 ih ?_ ?_⟩
         ·obtain ⟨b, _, rfl⟩ := List.mem_map.1 hr; simp [strRow]
         ·rcases List.mem_cons.1 hr with rfl | hr
          ·simp
          ·obtain ⟨b, _, rfl⟩ := List.mem_map.1 hr; simp [strRow]
         ·simp; omega
         ·simp [strRow]
        ·obtain rfl : a = A.length := by omega
         rw [List.take_length, List.drop_length] at ih
         ((refine Sg.h ?_); try repeat' ((first | (with_reducible first | refine brA ?_ | refine brE fun _ => ?_ | (refine spl ⟨?_, ?_⟩ <;> intro _))) <;> ((try simp -implicitDefEqProofs [hiL, hal]); (try simp -implicitDefEqProofs (disch := first | assumption | (try simp only [lens]); omega -splitDisjunctions) [hiL, hal]))))
         all_goals first | exact ih | (refine at2 ih ?_ ?_ <;> simp [strRow]; done) | (exfalso; first | omega | (simp_all; done) | (simp_all; omega))
       | succ k ih3 =>
        intro a ha
        have ih3 := ih3 (a + 1) (by omega)
        obtain ⟨hal, hlt⟩ := hzl a (by omega)
        have hlt : Op.bytesLess A[a].toList L[i].name.toList = true := by rw [less_eq]; simpa using hlt
        apply hQ3
        clear hQ3 ht hzl hza ih
        ((refine Sg.h ?_); try repeat' ((first | (with_reducible first | refine brA ?_ | refine brE fun _ => ?_ | (refine spl ⟨?_, ?_⟩ <;> intro _))) <;> ((try simp -implicitDefEqProofs [hiL, hal, hlt, strRow]); (try simp -implicitDefEqProofs (disch := first | assumption | (try simp only [lens]); omega -splitDisjunctions) [hiL, hal, hlt, strRow]))))
        all_goals first | exact ih3 | (refine at2 ih3 ?_ ?_ <;> simp [strRow]; done) | (exfalso; first | omega | (simp_all; done) | (simp_all; omega))
      refine at2 (main _ 0 (Nat.zero_add _)) ?_ ?_ <;> simp
     ·have hx : L[i].name ∈ A := memB_iff.1 hb
      rw [show insR A L[i].name = A from by unfold insR; rw [if_pos (inB_iff.2 hx)]] at ih
      rw [hb] at ht
      ((refine Sg.h ?_); try repeat' ((first | (with_reducible first | refine brA ?_ | refine brE fun _ => ?_ | (refine spl ⟨?_, ?_⟩ <;> intro _)) | (refine CL.see (ht) ?_ ?_ ?_; (focus (first | (simp; done) | (simp [scn]; done))); (focus (simp [flats]; done))) | (refine CD.see (ht) ?_ ?_ ?_; (focus (first | (simp; done) | (simp [scn]; done))); (focus (simp [flats]; done)))) <;> ((try simp -implicitDefEqProofs [hiL, hk]); (try simp -implicitDefEqProofs (disch := first | assumption | (try simp only [lens]); omega -splitDisjunctions) [hiL, hk]))))
      all_goals first | exact ih | (refine at2 ih ?_ ?_ <;> simp; done) | (exfalso; first | omega | (simp_all; done) | (simp_all; omega))
    ·simp only [hk, if_false, List.foldl_nil] at ih
     ((refine Sg.h ?_); try repeat' ((first | (with_reducible first | refine brA ?_ | refine brE fun _ => ?_ | (refine spl ⟨?_, ?_⟩ <;> intro _))) <;> ((try simp -implicitDefEqProofs [hiL, hk]); (try simp -implicitDefEqProofs (disch := first | assumption | (try simp only [lens]); omega -splitDisjunctions) [hiL, hk]))))
     all_goals first | exact ih | (refine at2 ih ?_ ?_ <;> simp [strRow]; done) | (exfalso; first | omega | (simp_all; done) | (simp_all; omega))
  refine at2 (main _ 0 (Nat.zero_add _)) ?_ ?_ <;> simp [varsL]
 refine at2 (outer _ 0 (Nat.zero_add _)) ?_ ?_ <;> simp [varsW, varsL]
end Go.Proofs.Ytcllmionhlmjfaa
namespace Go.Proofs.Ytcllmionhlmjfaa
open Go Go.Pv
def Pl (f : Fm) : Prop := Td f ∧ ∀ x ∈ pre f, x.kind ≤ 7
theorem Pl.kid {f g : Fm} (h : Pl f) (hg : g ∈ f.kids) : Pl g := ⟨h.1.kid hg, fun x hx => h.2 x (by rw [pre_eq]; exact List.mem_cons_of_mem _ (pres_mem hx _ hg))⟩
section
variable {h : ByteArray → Bool} {nm : ByteArray} {l : List Fm} {a b : Fm}
end
end Go.Proofs.Ytcllmionhlmjfaa
namespace Go.Proofs.Ytcllmionhlmjfaa
open Go Go.Pv
def x46_T1 : XC := .seq (.reg [⟨some 44,.load 24 (.tmp 7),none⟩,⟨none,.store 24 (.tmp 6) (.tmp 44),none⟩]) .ret
def x46_L0 : XC := .seq (.seq (.reg [⟨some 24,.move (.tmp 8),none⟩,⟨some 25,.fieldAddr 24 (.tmp 3) 2,none⟩,⟨some 26,.load 22 (.tmp 25),none⟩,⟨some 27,.call ⟨.builtin .len,#[.tmp 26],#[22]⟩,none⟩,⟨some 28,.binOp .lss 3 (.tmp 24) (.tmp 27) 3,none⟩]) (.cond (.tmp 28) .skip (.exit 0))) (.seq (.block 1 (.drawn 7 [⟨some 31,.fieldAddr 24 (.tmp 7) 2,none⟩,⟨some 32,.load 22 (.tmp 31),none⟩,⟨some 33,.fieldAddr 24 (.tmp 3) 2,none⟩,⟨some 34,.load 22 (.tmp 33),none⟩,⟨some 35,.move (.tmp 8),none⟩,⟨some 36,.indexAddr 22 (.tmp 34) (.tmp 35),none⟩,⟨some 37,.load 24 (.tmp 36),none⟩,⟨some 38,.move (.tmp 1),none⟩,⟨some 39,.load 24 (.tmp 5),none⟩,⟨some 40,.call ⟨.value (.func 46),#[.tmp 37,.tmp 38,.tmp 39],#[24,9,24]⟩,none⟩,⟨some 41,.buildSlice 22 1 #[(0,.tmp 40)],none⟩,⟨some 42,.call ⟨.builtin .append,#[.tmp 32,.tmp 41],#[22,22]⟩,none⟩,⟨some 43,.fieldAddr 24 (.tmp 7) 2,none⟩,⟨none,.store 22 (.tmp 43) (.tmp 42),none⟩])) (.reg [⟨some 29,.move (.tmp 8),none⟩,⟨some 30,.binOp .add 3 (.tmp 29) (.const (.int .i64 1)) 3,none⟩,⟨some 8,.assign (.tmp 30),none⟩]))
def x46 : XC := .seq (.reg [⟨some 3,.box 24 (.tmp 0),none⟩,⟨some 5,.box 24 (.tmp 2),none⟩,⟨some 6,.alloc 24,none⟩]) (.seq (.seq (.reg [⟨some 9,.fieldAddr 24 (.tmp 3) 0,none⟩,⟨some 10,.load 3 (.tmp 9),none⟩,⟨some 11,.binOp .eql 3 (.tmp 10) (.const (.int .i64 1)) 3,none⟩,⟨some 12,.move (.tmp 11),none⟩,⟨some 13,.fieldAddr 24 (.tmp 3) 1,some (some 12,true)⟩,⟨some 14,.load 9 (.tmp 13),some (some 12,true)⟩,⟨some 15,.move (.tmp 1),some (some 12,true)⟩,⟨some 16,.binOp .eql 9 (.tmp 14) (.tmp 15) 9,some (some 12,true)⟩,⟨some 17,.pick (.tmp 12) (.tmp 16) (.const (.bool false)),none⟩]) (.cond (.tmp 17) (.seq (.reg [⟨some 18,.load 24 (.tmp 5),none⟩,⟨none,.store 24 (.tmp 6) (.tmp 18),none⟩]) .ret) .skip)) (.seq (.reg [⟨some 19,.fieldAddr 24 (.tmp 3) 0,none⟩,⟨some 20,.load 3 (.tmp 19),none⟩,⟨some 21,.fieldAddr 24 (.tmp 3) 1,none⟩,⟨some 22,.load 9 (.tmp 21),none⟩,⟨some 23,.build 24 #[(0,.tmp 20),(1,.tmp 22)],none⟩,⟨some 7,.alloc 24,none⟩,⟨none,.store 24 (.tmp 7) (.tmp 23),none⟩]) (.seq (.seq (.reg [⟨some 8,.assign (.const (.int .i64 0)),none⟩]) (.bloop 0 x46_L0)) (x46_T1))))
@[simp] theorem x46_s {C e s K} : type_of% (@X_at C e s K _ _ x46_T1.eq_1) ∧ type_of% (@X_at C e s K _ _ x46_L0.eq_1) ∧ type_of% (@X_at C e s K _ _ x46.eq_1) := ⟨X_at x46_T1.eq_1, X_at x46_L0.eq_1, X_at x46.eq_1⟩
def an46 : Ann := ⟨[(7, .mix 11)], [(0, [(7, some 2, 3)], [1, 3, 5, 6, 7, 8], [6, 7])], []⟩
@[simp] theorem an46_a : an46.clsOf 7 = .mix 11 ∧ an46.frzOf 7 = [] ∧ an46.loopOf 0 = ([(7, some 2, 3)], [1, 3, 5, 6, 7, 8], [6, 7]) := ⟨rfl, rfl, rfl⟩
theorem fi46 : FI Try.prog 46 (cxA an46) x46 [.cell 6 24] Try.f46 := fiA Try.func46 mixed
theorem With_ref (nm : ByteArray) (g : Fm) (f : Fm) (hf : OkF (fun n => isNameB n = true) f) : CallOK Try.prog 46 [.agg (frm f), .str nm, .agg (frm g)] [] (.agg (frm (withF nm g f))) [] := by
 induction f using Fm.ind with
 | h f ih =>
  have ih := fun x hx => ih x hx (hf.kid hx)
  have hkl := hf.kids_le
  rw [withF_eq]
  refine fi46.os ?_
  by_cases hc : f.kind = 1 ∧ f.name = nm
  ·rw [if_pos hc]
   ((refine Sg.h ?_); try repeat' ((first | (with_reducible first | refine brA ?_ | refine brE fun _ => ?_ | (refine spl ⟨?_, ?_⟩ <;> intro _))) <;> ((try simp -implicitDefEqProofs [hc.1, hc.2]); (try simp -implicitDefEqProofs (disch := first | assumption | (try simp only [lens]); omega -splitDisjunctions) [hc.1, hc.2]))))
  ·rw [if_neg hc]
   have key : W ((cxA an46) Try.prog 0) 0 x46_L0 (KS.seq x46_T1 (KS.fin [ResultVar.cell 6 24] fun v1 s1 => softV (deref s1 6 v1) = PV.agg (frm (Fm.mk f.kind f.name (List.map (withF nm g) f.kids))))) [(1, PV.str nm), (3, PV.ptr 0 0 0), (5, PV.ptr 1 0 0), (6, PV.ptr 2 0 0), (7, PV.ptr 3 0 0), (8, PV.int IntKind.i64 0)] [PObj.rows 3 [frm f], PObj.rows 3 [frm g], PObj.rows 3 [[PV.int IntKind.i64 0, PV.str { data := #[] }, PV.nilsl]], PObj.rows 3 [[PV.int IntKind.i64 f.kind, PV.str f.name, PV.sl 4 0 0]], PObj.rows 3 []] := by
    refine W_of fun Q hQ => ?_
    have main : ∀ r i, i + r = f.kids.length → Q [(1, .str nm), (3, .ptr 0 0 0), (5, .ptr 1 0 0), (6, .ptr 2 0 0), (7, .ptr 3 0 0), (8, .int .i64 (i : Int))] [.rows 3 [frm f], .rows 3 [frm g], .rows 3 [[.int .i64 0, .str ⟨#[]⟩, .nilsl]], .rows 3 [[.int .i64 f.kind, .str f.name, .sl 4 0 i]], .rows 3 (((f.kids.take i).map (withF nm g)).map frm)] := by
     intro r
     induction r with
     | zero =>
      intro i hi
      obtain rfl : i = f.kids.length := by omega
      rw [List.take_length]
      apply hQ
      clear hQ
      rw [frm_eq (Fm.mk _ _ _)]
      ((refine Sg.h ?_); try repeat' ((first | (with_reducible first | refine brA ?_ | refine brE fun _ => ?_ | (refine spl ⟨?_, ?_⟩ <;> intro _))) <;> ((try simp -implicitDefEqProofs); (try simp -implicitDefEqProofs (disch := first | assumption | (try simp only [lens]); omega -splitDisjunctions)))))
     | succ r ihr =>
      intro i hi
      have hik : i < f.kids.length := by omega
      have ihr := ihr (i + 1) (by omega)
      have hc := ih f.kids[i] (List.getElem_mem hik)
      rw [take_snoc hik, List.map_append, List.map_append, List.map_cons, List.map_nil] at ihr
      apply hQ
      clear hQ
      ((refine Sg.h ?_); try repeat' ((first | (with_reducible first | refine brA ?_ | refine brE fun _ => ?_ | (refine spl ⟨?_, ?_⟩ <;> intro _)) | refine clo hc ?_) <;> ((try simp -implicitDefEqProofs [hik]); (try simp -implicitDefEqProofs (disch := first | assumption | (try simp only [lens]); omega -splitDisjunctions) [hik]))))
      all_goals first | exact ihr | (refine at2 ihr ?_ ?_ <;> simp; done) | (exfalso; first | omega | (simp_all; done) | (simp_all; omega))
    refine at2 (main _ 0 (Nat.zero_add _)) ?_ ?_ <;> simp
   by_cases h1 : f.kind = 1
   ·have h2 : ¬ f.name = nm := fun h => hc ⟨h1, h⟩
    have h1 : (f.kind = 1) = True := eq_true h1
    have h2 : (f.name = nm) = False := eq_false h2
    ((refine Sg.h ?_); try repeat' ((first | (with_reducible first | refine brA ?_ | refine brE fun _ => ?_ | (refine spl ⟨?_, ?_⟩ <;> intro _))) <;> ((try simp -implicitDefEqProofs [h1, h2]); (try simp -implicitDefEqProofs (disch := first | assumption | (try simp only [lens]); omega -splitDisjunctions) [h1, h2]))))
    all_goals exact key
   ·have h1 : (f.kind = 1) = False := eq_false h1
    ((refine Sg.h ?_); try repeat' ((first | (with_reducible first | refine brA ?_ | refine brE fun _ => ?_ | (refine spl ⟨?_, ?_⟩ <;> intro _))) <;> ((try simp -implicitDefEqProofs [h1]); (try simp -implicitDefEqProofs (disch := first | assumption | (try simp only [lens]); omega -splitDisjunctions) [h1]))))
    all_goals exact key
end Go.Proofs.Ytcllmionhlmjfaa
