import Derived.Test.YtnoklmapofogeaaSTy
import Derived.Test.YtnoklmapofogeaaSTPa
import Derived.Test.YtnoklmapofogeaaSFormA
set_option linter.unusedVariables false
set_option linter.unusedSimpArgs false
set_option maxRecDepth 100000
set_option maxHeartbeats 4000000
namespace Go.Proofs.Ytnoklmapofogeaa
open Go Go.Pv
def x59_L0 : XC := .seq (.seq (.reg [⟨some 6,.move (.tmp 5),none⟩,⟨some 7,.move (.tmp 0),none⟩,⟨some 8,.call ⟨.builtin .len,#[.tmp 7],#[35]⟩,none⟩,⟨some 9,.binOp .lss 3 (.tmp 6) (.tmp 8) 3,none⟩]) (.cond (.tmp 9) .skip (.exit 0))) (.seq (.block 1 (.seq (.reg [⟨some 12,.move (.tmp 0),none⟩,⟨some 13,.move (.tmp 5),none⟩,⟨some 14,.indexAddr 35 (.tmp 12) (.tmp 13),none⟩,⟨some 15,.load 9 (.tmp 14),none⟩,⟨some 16,.move (.tmp 1),none⟩,⟨some 17,.binOp .eql 9 (.tmp 15) (.tmp 16) 9,none⟩]) (.cond (.tmp 17) (.seq (.reg [⟨some 4,.assign (.const (.bool true)),none⟩]) .ret) .skip))) (.reg [⟨some 10,.move (.tmp 5),none⟩,⟨some 11,.binOp .add 3 (.tmp 10) (.const (.int .i64 1)) 3,none⟩,⟨some 5,.assign (.tmp 11),none⟩]))
def x59 : XC := .seq (.reg [⟨some 4,.assign (.const (.bool false)),none⟩]) (.seq (.seq (.reg [⟨some 5,.assign (.const (.int .i64 0)),none⟩]) (.bloop 0 x59_L0)) (.seq (.reg [⟨some 4,.assign (.const (.bool false)),none⟩]) .ret))
@[simp] theorem x59_s {C e s K} : type_of% (@X_at C e s K _ _ x59_L0.eq_1) ∧ type_of% (@X_at C e s K _ _ x59.eq_1) := ⟨X_at x59_L0.eq_1, X_at x59.eq_1⟩
def an59 : Ann := ⟨[], [(0, [], [0, 1, 5], [4])], []⟩
@[simp] theorem an59_a : an59.loopOf 0 = ([], [0, 1, 5], [4]) := rfl
theorem fi59 : FI Try.prog 59 (cxA an59) x59 [.tmp 4] Try.f59 := fiA Try.func59 mixed
theorem HasText_ref (l : List ByteArray) (u : ByteArray) : CallOK Try.prog 59 [.list (l.map strRow), .str u] [] (.bool (memB u l)) [] := by
 refine fi59.op ?_
 ((refine Sg.h ?_); try repeat' ((first | (with_reducible first | refine brA ?_ | refine brE fun _ => ?_ | (refine spl ⟨?_, ?_⟩ <;> intro _))) <;> ((try simp -implicitDefEqProofs); (try simp -implicitDefEqProofs (disch := first | assumption | (try simp only [lens]); omega -splitDisjunctions)))))
 refine W_of fun Q hQ => ?_
 have main : ∀ n i, i + n = l.length → (∀ j (h : j < l.length), j < i → l[j] ≠ u) → Q [(0, .list (l.map strRow)), (1, .str u), (5, .int .i64 (i : Int))] [] := by
  intro n
  induction n with
  | zero =>
   intro i hi hl
   have hno : memB u l = false := by
    rw [Bool.eq_false_iff, Ne, memB_iff]
    intro h
    obtain ⟨j, hj, e⟩ := List.mem_iff_getElem.1 h
    exact hl j hj (by omega) e
   apply hQ
   ((refine Sg.h ?_); try repeat' ((first | (with_reducible first | refine brA ?_ | refine brE fun _ => ?_ | (refine spl ⟨?_, ?_⟩ <;> intro _))) <;> ((try simp -implicitDefEqProofs); (try simp -implicitDefEqProofs (disch := first | assumption | (try simp only [lens]); omega -splitDisjunctions)))))
   all_goals simp [hno]
  | succ n ih =>
   intro i hi hl
   have hlt : i < l.length := by omega
   by_cases hb : l[i] = u
   ·have hyes : memB u l = true := memB_iff.2 (hb ▸ List.getElem_mem hlt)
    apply hQ
    ((refine Sg.h ?_); try repeat' ((first | (with_reducible first | refine brA ?_ | refine brE fun _ => ?_ | (refine spl ⟨?_, ?_⟩ <;> intro _))) <;> ((try simp -implicitDefEqProofs); (try simp -implicitDefEqProofs (disch := first | assumption | (try simp only [lens]); omega -splitDisjunctions)))))
    all_goals simp_all
   ·have ih := ih (i + 1) (by omega) (fun j hj hji => by
     by_cases e : j = i
     ·subst e; exact hb
     ·exact hl j hj (by omega))
    apply hQ
    ((refine Sg.h ?_); try repeat' ((first | (with_reducible first | refine brA ?_ | refine brE fun _ => ?_ | (refine spl ⟨?_, ?_⟩ <;> intro _))) <;> ((try simp -implicitDefEqProofs); (try simp -implicitDefEqProofs (disch := first | assumption | (try simp only [lens]); omega -splitDisjunctions)))))
    all_goals first | (exfalso; simp_all; done) | simpa using ih
 refine at2 (main _ 0 (Nat.zero_add _) (fun j h hj => by omega)) ?_ ?_ <;> simp
end Go.Proofs.Ytnoklmapofogeaa
namespace Go.Proofs.Ytnoklmapofogeaa
open Go Go.Pv
def varsL (l : List Fm) : List ByteArray := (l.filter fun x => decide (x.kind = 1)).map Fm.name
theorem varsL_append (a b : List Fm) : varsL (a ++ b) = varsL a ++ varsL b := by simp [varsL]
theorem varsL_le (l : List Fm) : (varsL l).length ≤ l.length := by
 unfold varsL; rw [List.length_map]; exact List.length_filter_le _ _
theorem nodesGo_len (M : Nat) : ∀ (n : Nat) (st : List Fm), (nodesGo M n st).length ≤ n
 | 0, st => by simp [nodesGo]
 | n + 1, [] => by simp [nodesGo]
 | n + 1, x :: r => by rw [nodesGo_succ]; have := nodesGo_len M n (x.kids.take M ++ r); simp; omega
theorem callOK_done {P : Program} {f : FuncId} {args : List PV} {v v' : PV} {s1 : Store} (h : CallOK P f args [] v s1) (e : deref s1 6 v = v') : CallOK P f args [] v' [] := by
 intro pub σ w cargs hb ha
 refine Calls.mono (h pub σ w cargs hb ha) ?_
 rintro en w' ⟨cv, pub', σ', rfl, hs, hr⟩
 have hσ : σ = noSig := funext fun i => hb.sig i (Nat.zero_le _)
 obtain ⟨p, t, h1, h2⟩ := RetView.done 6 e ⟨w, pub, σ, dom [] σ⟩ pub' σ' w' cv (fun i _ => by rw [hσ]; rfl) hs hr
 exact ⟨cv, p, t, rfl, h1, h2⟩
theorem less_eq (a b : ByteArray) : Op.bytesLess a.toList b.toList = decide (toL a < toL b) := by
 rw [Go.Proofs.bytesLess_eq, ByteArray.toList_eq, ByteArray.toList_eq]; rfl
def varsW (l : List Fm) : List ByteArray := varsL (l.flatMap fun f => walkL f 100000)
theorem varsW_snoc (l : List Fm) (f : Fm) : varsW (l ++ [f]) = varsW l ++ varsL (walkL f 100000) := by simp [varsW, varsL_append]
theorem varsW_len : ∀ (l : List Fm), (varsW l).length ≤ 100001 * l.length
 | [] => by simp [varsW, varsL]
 | f :: r => by
  have h1 := varsW_len r
  have h2 := varsL_le (walkL f 100000)
  have h3 := (walk_len f 100000 (by decide)).2
  have e : varsW (f :: r) = varsL (walkL f 100000) ++ varsW r := by simp [varsW, varsL_append]
  rw [e, List.length_append, List.length_cons]; omega
def x17_T4 : XC := .seq (.reg [⟨some 72,.move (.tmp 3),none⟩,⟨some 2,.assign (.tmp 72),none⟩]) .ret
def x17_T3 : XC := .drawn 13 [⟨some 58,.move (.tmp 3),none⟩,⟨some 59,.move (.tmp 7),none⟩,⟨some 60,.slice 35 (.tmp 58) none (some (.tmp 59)) none,none⟩,⟨some 61,.move (.tmp 5),none⟩,⟨some 62,.move (.tmp 6),none⟩,⟨some 63,.indexAddr 22 (.tmp 61) (.tmp 62),none⟩,⟨some 64,.fieldAddr 24 (.tmp 63) 1,none⟩,⟨some 65,.load 9 (.tmp 64),none⟩,⟨some 66,.buildSlice 35 1 #[(0,.tmp 65)],none⟩,⟨some 67,.move (.tmp 3),none⟩,⟨some 68,.move (.tmp 7),none⟩,⟨some 69,.slice 35 (.tmp 67) (some (.tmp 68)) none none,none⟩,⟨some 70,.call ⟨.builtin .append,#[.tmp 66,.tmp 69],#[35,35]⟩,none⟩,⟨some 71,.call ⟨.builtin .append,#[.tmp 60,.tmp 70],#[35,35]⟩,none⟩,⟨some 3,.assign (.tmp 71),none⟩]
def x17_L4 : XC := .seq (.seq (.drawn 11 [⟨some 40,.move (.tmp 7),none⟩,⟨some 41,.move (.tmp 3),none⟩,⟨some 42,.call ⟨.builtin .len,#[.tmp 41],#[35]⟩,none⟩,⟨some 43,.binOp .lss 3 (.tmp 40) (.tmp 42) 3,none⟩,⟨some 44,.move (.tmp 43),none⟩,⟨some 45,.move (.tmp 3),some (some 44,true)⟩,⟨some 46,.move (.tmp 7),some (some 44,true)⟩,⟨some 47,.indexAddr 35 (.tmp 45) (.tmp 46),some (some 44,true)⟩,⟨some 48,.load 9 (.tmp 47),some (some 44,true)⟩,⟨some 49,.move (.tmp 5),some (some 44,true)⟩,⟨some 50,.move (.tmp 6),some (some 44,true)⟩,⟨some 51,.indexAddr 22 (.tmp 49) (.tmp 50),some (some 44,true)⟩,⟨some 52,.fieldAddr 24 (.tmp 51) 1,some (some 44,true)⟩,⟨some 53,.load 9 (.tmp 52),some (some 44,true)⟩,⟨some 54,.binOp .lss 9 (.tmp 48) (.tmp 53) 9,some (some 44,true)⟩,⟨some 55,.pick (.tmp 44) (.tmp 54) (.const (.bool false)),none⟩]) (.cond (.tmp 55) .skip (.exit 4))) (.block 5 (.reg [⟨some 56,.move (.tmp 7),none⟩,⟨some 57,.binOp .add 3 (.tmp 56) (.const (.int .i64 1)) 3,none⟩,⟨some 7,.assign (.tmp 57),none⟩]))
def x17_L2 : XC := .seq (.seq (.reg [⟨some 19,.move (.tmp 6),none⟩,⟨some 20,.move (.tmp 5),none⟩,⟨some 21,.call ⟨.builtin .len,#[.tmp 20],#[22]⟩,none⟩,⟨some 22,.binOp .lss 3 (.tmp 19) (.tmp 21) 3,none⟩]) (.cond (.tmp 22) .skip (.exit 2))) (.seq (.block 3 (.seq (.seq (.reg [⟨some 25,.move (.tmp 5),none⟩,⟨some 26,.move (.tmp 6),none⟩,⟨some 27,.indexAddr 22 (.tmp 25) (.tmp 26),none⟩,⟨some 28,.fieldAddr 24 (.tmp 27) 0,none⟩,⟨some 29,.load 3 (.tmp 28),none⟩,⟨some 30,.binOp .neq 3 (.tmp 29) (.const (.int .i64 1)) 3,none⟩,⟨some 31,.move (.tmp 30),none⟩,⟨some 32,.move (.tmp 3),some (some 31,false)⟩,⟨some 33,.move (.tmp 5),some (some 31,false)⟩,⟨some 34,.move (.tmp 6),some (some 31,false)⟩,⟨some 35,.indexAddr 22 (.tmp 33) (.tmp 34),some (some 31,false)⟩,⟨some 36,.fieldAddr 24 (.tmp 35) 1,some (some 31,false)⟩,⟨some 37,.load 9 (.tmp 36),some (some 31,false)⟩,⟨some 38,.call ⟨.value (.func 59),#[.tmp 32,.tmp 37],#[35,9]⟩,some (some 31,false)⟩,⟨some 39,.pick (.tmp 31) (.const (.bool true)) (.tmp 38),none⟩]) (.cond (.tmp 39) (.exit 3) .skip)) (.seq (.reg [⟨some 7,.assign (.const (.int .i64 0)),none⟩]) (.seq (.bloop 4 x17_L4) (x17_T3))))) (.reg [⟨some 23,.move (.tmp 6),none⟩,⟨some 24,.binOp .add 3 (.tmp 23) (.const (.int .i64 1)) 3,none⟩,⟨some 6,.assign (.tmp 24),none⟩]))
def x17_L0 : XC := .seq (.seq (.reg [⟨some 8,.move (.tmp 4),none⟩,⟨some 9,.move (.tmp 0),none⟩,⟨some 10,.call ⟨.builtin .len,#[.tmp 9],#[22]⟩,none⟩,⟨some 11,.binOp .lss 3 (.tmp 8) (.tmp 10) 3,none⟩]) (.cond (.tmp 11) .skip (.exit 0))) (.seq (.block 1 (.seq (.reg [⟨some 14,.move (.tmp 0),none⟩,⟨some 15,.move (.tmp 4),none⟩,⟨some 16,.indexAddr 22 (.tmp 14) (.tmp 15),none⟩,⟨some 17,.load 24 (.tmp 16),none⟩,⟨some 18,.call ⟨.value (.func 62),#[.tmp 17,.const (.int .i64 100000)],#[24,3]⟩,none⟩,⟨some 5,.assign (.tmp 18),none⟩]) (.seq (.reg [⟨some 6,.assign (.const (.int .i64 0)),none⟩]) (.bloop 2 x17_L2)))) (.reg [⟨some 12,.move (.tmp 4),none⟩,⟨some 13,.binOp .add 3 (.tmp 12) (.const (.int .i64 1)) 3,none⟩,⟨some 4,.assign (.tmp 13),none⟩]))
def x17 : XC := .seq (.reg [⟨some 2,.assign (.const (.slice none 0 0)),none⟩]) (.seq (.reg [⟨some 3,.assign (.const (.slice none 0 0)),none⟩]) (.seq (.seq (.reg [⟨some 4,.assign (.const (.int .i64 0)),none⟩]) (.bloop 0 x17_L0)) (x17_T4)))
@[simp] theorem x17_s {C e s K} : type_of% (@X_at C e s K _ _ x17_T4.eq_1) ∧ type_of% (@X_at C e s K _ _ x17_T3.eq_1) ∧ type_of% (@X_at C e s K _ _ x17_L4.eq_1) ∧ type_of% (@X_at C e s K _ _ x17_L2.eq_1) ∧ type_of% (@X_at C e s K _ _ x17_L0.eq_1) ∧ type_of% (@X_at C e s K _ _ x17.eq_1) := ⟨X_at x17_T4.eq_1, X_at x17_T3.eq_1, X_at x17_L4.eq_1, X_at x17_L2.eq_1, X_at x17_L0.eq_1, X_at x17.eq_1⟩
@[simp] def tr17_13 : MT := .op 0 (.op 1 (.op 2 (.op 3 (.op 4 (.op 5 (.op 6 (.op 7 (.op 9 (.op 10 (.op 11 (.op 8 (.ck 2 (.ck 11 (.op 12 (.ck 2 (.op 13 (.op 14 .fin)))))))))))))))))
def an17 : Ann := ⟨[(11, .mix 14), (13, .tree tr17_13)], [(4, [(3, none, 1)], [0, 3, 4, 5, 6, 7], [0, 3, 4, 5, 6, 7]), (2, [(3, none, 1)], [0, 3, 4, 5, 6], [0, 3, 4]), (0, [(3, none, 1)], [0, 3, 4], [3])], []⟩
@[simp] theorem an17_a : an17.clsOf 11 = .mix 14 ∧ an17.clsOf 13 = .tree tr17_13 ∧ an17.frzOf 11 = [] ∧ an17.frzOf 13 = [] ∧ an17.loopOf 4 = ([(3, none, 1)], [0, 3, 4, 5, 6, 7], [0, 3, 4, 5, 6, 7]) ∧ an17.loopOf 2 = ([(3, none, 1)], [0, 3, 4, 5, 6], [0, 3, 4]) ∧ an17.loopOf 0 = ([(3, none, 1)], [0, 3, 4], [3]) := ⟨rfl, rfl, rfl, rfl, rfl, rfl, rfl⟩
theorem fi17 : FI Try.prog 17 (cxA an17) x17 [.tmp 2] Try.f17 := fiA Try.func17 mixed
theorem NamesIn_ref (l : List Fm) (hl : l.length ≤ 100) : CallOK Try.prog 17 [.list (l.map frm)] [] (.list (((varsW l).foldl insR []).map strRow)) [] := by
 refine fi17.op ?_
 ((refine Sg.h ?_); try repeat' ((first | (with_reducible first | refine brA ?_ | refine brE fun _ => ?_ | (refine spl ⟨?_, ?_⟩ <;> intro _))) <;> ((try simp -implicitDefEqProofs); (try simp -implicitDefEqProofs (disch := first | assumption | (try simp only [lens]); omega -splitDisjunctions)))))
 refine W_of fun Q hQ => ?_
 have outer : ∀ r p, p + r = l.length → Q [(0, .list (l.map frm)), (3, .sl 0 0 ((varsW (l.take p)).foldl insR []).length), (4, .int .i64 (p : Int))] [.rows 1 (((varsW (l.take p)).foldl insR []).map strRow)] := by
  intro r
  induction r with
  | zero =>
  intro p hp
  obtain rfl : p = l.length := by omega
  rw [List.take_length]
  generalize (varsW l).foldl insR [] = A at *
  apply hQ
  clear hQ
  ((refine Sg.h ?_); try repeat' ((first | (with_reducible first | refine brA ?_ | refine brE fun _ => ?_ | (refine spl ⟨?_, ?_⟩ <;> intro _))) <;> ((try simp -implicitDefEqProofs); (try simp -implicitDefEqProofs (disch := first | assumption | (try simp only [lens]); omega -splitDisjunctions)))))
  | succ r ihr =>
  intro p hp
  have hpl : p < l.length := by omega
  have q1 := ihr (p + 1) (by omega)
  rw [take_snoc hpl, varsW_snoc, List.foldl_append] at q1
  have hw := walk_ref l[p] 100000 (by decide) (by decide) []
  have hwl := (walk_len l[p] 100000 (by decide)).2
  have hA0 := Nat.le_trans (ins_len (varsW (l.take p)) []) (by rw [List.length_nil, Nat.zero_add]; exact varsW_len _)
  rw [List.length_take] at hA0
  generalize (varsW (l.take p)).foldl insR [] = A0 at *
  generalize walkL l[p] 100000 = L at *
  apply hQ
  clear hQ
  ((refine Sg.h ?_); try repeat' ((first | (with_reducible first | refine brA ?_ | refine brE fun _ => ?_ | (refine spl ⟨?_, ?_⟩ <;> intro _)) | refine clo hw ?_) <;> ((try simp -implicitDefEqProofs [hpl]); (try simp -implicitDefEqProofs (disch := first | assumption | (try simp only [lens]); omega -splitDisjunctions) [hpl]))))
  refine W_of fun Q2 hQ2 => ?_
  have main : ∀ k i, i + k = L.length → Q2 [(0, .list (l.map frm)), (3, .sl 0 0 ((varsL (L.take i)).foldl insR A0).length), (4, .int .i64 (p : Int)), (5, .list (L.map frm)), (6, .int .i64 (i : Int))] [.rows 1 (((varsL (L.take i)).foldl insR A0).map strRow)] := by
   intro k
   induction k with
   | zero =>
    intro i hi
    obtain rfl : i = L.length := by omega
    rw [List.take_length]
    generalize (varsL L).foldl insR A0 = A at *
    apply hQ2
    clear hQ2 hw
    ((refine Sg.h ?_); try repeat' ((first | (with_reducible first | refine brA ?_ | refine brE fun _ => ?_ | (refine spl ⟨?_, ?_⟩ <;> intro _))) <;> ((try simp -implicitDefEqProofs); (try simp -implicitDefEqProofs (disch := first | assumption | (try simp only [lens]); omega -splitDisjunctions)))))
    all_goals first | exact q1 | (refine at2 q1 ?_ ?_ <;> simp; done) | (exfalso; first | omega | (simp_all; done) | (simp_all; omega))
   | succ k ih =>
    intro i hi
    have hiL : i < L.length := by omega
    have ih := ih (i + 1) (by omega)
    have hvi := varsL_le (L.take i)
    rw [List.length_take] at hvi
    rw [take_snoc hiL, varsL_append] at ih
    have hv1 : varsL [L[i]] = if L[i].kind = 1 then [L[i].name] else [] := by unfold varsL; rw [List.filter_cons, List.filter_nil]; split <;> simp_all
    rw [hv1, List.foldl_append] at ih
    have hAl := ins_len (varsL (L.take i)) A0
    clear q1 hw hv1
    generalize (varsL (L.take i)).foldl insR A0 = A at *
    have hAl : A.length ≤ 100001 * 101 := by omega
    have ht := HasText_ref A L[i].name
    apply hQ2
    clear hQ2
    by_cases hk : L[i].kind = 1
    ·simp only [hk, if_true, List.foldl_cons, List.foldl_nil] at ih
     cases hb : memB L[i].name A
     ·have hx : L[i].name ∉ A := fun h => by rw [memB_iff.2 h] at hb; cases hb
      rw [show insR A L[i].name = A.take (insAt A L[i].name) ++ L[i].name :: A.drop (insAt A L[i].name) from by unfold insR; rw [if_neg (fun h => hx (inB_iff.1 h))]] at ih
      rw [hb] at ht
      ((refine Sg.h ?_); try repeat' ((first | (with_reducible first | refine brA ?_ | refine brE fun _ => ?_ | (refine spl ⟨?_, ?_⟩ <;> intro _)) | (refine CL.see (ht) ?_ ?_ ?_; (focus (first | (simp; done) | (simp [scn]; done))); (focus (simp [flats]; done))) | (refine CD.see (ht) ?_ ?_ ?_; (focus (first | (simp; done) | (simp [scn]; done))); (focus (simp [flats]; done)))) <;> ((try simp -implicitDefEqProofs [hiL, hk]); (try simp -implicitDefEqProofs (disch := first | assumption | (try simp only [lens]); omega -splitDisjunctions) [hiL, hk]))))
      have hz := insAt_le A L[i].name
      have hzl := insAt_lt A L[i].name
      have hza := insAt_at A L[i].name
      generalize insAt A L[i].name = z at *
      refine W_of fun Q3 hQ3 => ?_
      have main : ∀ k a, a + k = z → Q3 [(0, .list (l.map frm)), (3, .sl 0 0 A.length), (4, .int .i64 (p : Int)), (5, .list (L.map frm)), (6, .int .i64 (i : Int)), (7, .int .i64 (a : Int))] [.rows 1 (A.map strRow)] := by
       intro k
       induction k with
       | zero =>
        intro a ha
        obtain rfl : a = z := by omega
        apply hQ3
        clear hQ3 ht hzl
        by_cases hal : a < A.length
        ·have hza := hza hal
         have hlt : Op.bytesLess A[a].toList L[i].name.toList = false := by rw [less_eq]; simpa using hza
         ((refine Sg.h ?_); try repeat' ((first | (with_reducible first | refine brA ?_ | refine brE fun _ => ?_ | (refine spl ⟨?_, ?_⟩ <;> intro _))) <;> ((try simp -implicitDefEqProofs [hiL, hal, hlt, strRow]); (try simp -implicitDefEqProofs (disch := first | assumption | (try simp only [lens]); omega -splitDisjunctions) [hiL, hal, hlt, strRow]))))
         have e1 : List.take (A.length - a) (List.drop a (List.map strRow A)) = (A.drop a).map strRow := by rw [← List.map_drop, List.take_of_length_le (by simp)]
         have e2 : List.take (1 + (A.length - a)) ([PV.str L[i].name] :: (A.drop a).map strRow) = [PV.str L[i].name] :: (A.drop a).map strRow := List.take_of_length_le (by simp; omega)
         rw [e1, e2]
         simp only [hz, if_true, TK_some, true_and]
         refine ⟨⟨fun row hr => ?_, by omega⟩, by omega, ⟨fun row hr => ?_, by omega⟩, at2 ih ?_ ?_⟩
         ·obtain ⟨b, _, rfl⟩ := List.mem_map.1 hr; simp [strRow]
         ·rcases List.mem_cons.1 hr with rfl | hr
          ·simp
          ·obtain ⟨b, _, rfl⟩ := List.mem_map.1 hr; simp [strRow]
         ·simp; omega
         ·simp [strRow]
        ·obtain rfl : a = A.length := by omega
         rw [List.take_length, List.drop_length] at ih
         ((refine Sg.h ?_); try repeat' ((first | (with_reducible first | refine brA ?_ | refine brE fun _ => ?_ | (refine spl ⟨?_, ?_⟩ <;> intro _))) <;> ((try simp -implicitDefEqProofs [hiL, hal]); (try simp -implicitDefEqProofs (disch := first | assumption | (try simp only [lens]); omega -splitDisjunctions) [hiL, hal]))))
         all_goals first | exact ih | (refine at2 ih ?_ ?_ <;> simp [strRow]; done) | (exfalso; first | omega | (simp_all; done) | (simp_all; omega))
       | succ k ih3 =>
        intro a ha
        have ih3 := ih3 (a + 1) (by omega)
        obtain ⟨hal, hlt⟩ := hzl a (by omega)
        have hlt : Op.bytesLess A[a].toList L[i].name.toList = true := by rw [less_eq]; simpa using hlt
        apply hQ3
        clear hQ3 ht hzl hza ih
        ((refine Sg.h ?_); try repeat' ((first | (with_reducible first | refine brA ?_ | refine brE fun _ => ?_ | (refine spl ⟨?_, ?_⟩ <;> intro _))) <;> ((try simp -implicitDefEqProofs [hiL, hal, hlt, strRow]); (try simp -implicitDefEqProofs (disch := first | assumption | (try simp only [lens]); omega -splitDisjunctions) [hiL, hal, hlt, strRow]))))
        all_goals first | exact ih3 | (refine at2 ih3 ?_ ?_ <;> simp [strRow]; done) | (exfalso; first | omega | (simp_all; done) | (simp_all; omega))
      refine at2 (main _ 0 (Nat.zero_add _)) ?_ ?_ <;> simp
     ·have hx : L[i].name ∈ A := memB_iff.1 hb
      rw [show insR A L[i].name = A from by unfold insR; rw [if_pos (inB_iff.2 hx)]] at ih
      rw [hb] at ht
      ((refine Sg.h ?_); try repeat' ((first | (with_reducible first | refine brA ?_ | refine brE fun _ => ?_ | (refine spl ⟨?_, ?_⟩ <;> intro _)) | (refine CL.see (ht) ?_ ?_ ?_; (focus (first | (simp; done) | (simp [scn]; done))); (focus (simp [flats]; done))) | (refine CD.see (ht) ?_ ?_ ?_; (focus (first | (simp; done) | (simp [scn]; done))); (focus (simp [flats]; done)))) <;> ((try simp -implicitDefEqProofs [hiL, hk]); (try simp -implicitDefEqProofs (disch := first | assumption | (try simp only [lens]); omega -splitDisjunctions) [hiL, hk]))))
      all_goals first | exact ih | (refine at2 ih ?_ ?_ <;> simp; done) | (exfalso; first | omega | (simp_all; done) | (simp_all; omega))
    ·simp only [hk, if_false, List.foldl_nil] at ih
     ((refine Sg.h ?_); try repeat' ((first | (with_reducible first | refine brA ?_ | refine brE fun _ => ?_ | (refine spl ⟨?_, ?_⟩ <;> intro _))) <;> ((try simp -implicitDefEqProofs [hiL, hk]); (try simp -implicitDefEqProofs (disch := first | assumption | (try simp only [lens]); omega -splitDisjunctions) [hiL, hk]))))
     all_goals first | exact ih | (refine at2 ih ?_ ?_ <;> simp [strRow]; done) | (exfalso; first | omega | (simp_all; done) | (simp_all; omega))
  refine at2 (main _ 0 (Nat.zero_add _)) ?_ ?_ <;> simp [varsL]
 refine at2 (outer _ 0 (Nat.zero_add _)) ?_ ?_ <;> simp [varsW, varsL]
end Go.Proofs.Ytnoklmapofogeaa
namespace Go.Proofs.Ytnoklmapofogeaa
open Go Go.Pv
theorem flat_len_le {α : Type} : ∀ (l : List (List α)) (i : Nat), (l.take i).flatten.length ≤ l.flatten.length
 | [], i => by simp
 | a :: r, 0 => by simp
 | a :: r, i + 1 => by simp only [List.take_succ_cons, List.flatten_cons, List.length_append]; have := flat_len_le r i; omega
def x97 : XC := .seq (.reg [⟨some 4,.assign (.const (.slice none 0 0)),none⟩]) (.seq (.seq (.reg [⟨some 5,.move (.tmp 1),none⟩,⟨some 6,.binOp .lss 3 (.tmp 5) (.const (.int .i64 0)) 3,none⟩]) (.cond (.tmp 6) (.reg [⟨some 7,.makeInterface 9 (.const (.string ⟨#[99,97,110,110,111,116,32,98,101,32,110,101,103,97,116,105,118,101]⟩)),none⟩,⟨none,.panic (.tmp 7),none⟩]) .skip)) (.seq (.seq (.reg [⟨some 8,.move (.tmp 1),none⟩,⟨some 9,.move (.tmp 0),none⟩,⟨some 10,.call ⟨.builtin .cap,#[.tmp 9],#[22]⟩,none⟩,⟨some 11,.move (.tmp 0),none⟩,⟨some 12,.call ⟨.builtin .len,#[.tmp 11],#[22]⟩,none⟩,⟨some 13,.binOp .sub 3 (.tmp 10) (.tmp 12) 3,none⟩,⟨some 14,.binOp .sub 3 (.tmp 8) (.tmp 13) 3,none⟩,⟨some 1,.assign (.tmp 14),none⟩]) (.seq (.reg [⟨some 15,.move (.tmp 1),none⟩,⟨some 16,.binOp .gtr 3 (.tmp 15) (.const (.int .i64 0)) 3,none⟩]) (.cond (.tmp 16) (.reg [⟨some 17,.move (.tmp 0),none⟩,⟨some 18,.move (.tmp 0),none⟩,⟨some 19,.call ⟨.builtin .cap,#[.tmp 18],#[22]⟩,none⟩,⟨some 20,.slice 22 (.tmp 17) none (some (.tmp 19)) none,none⟩,⟨some 21,.move (.tmp 1),none⟩,⟨some 22,.call ⟨.builtin .append,#[.tmp 20,.tmp 21],#[22,3]⟩,none⟩,⟨some 23,.move (.tmp 0),none⟩,⟨some 24,.call ⟨.builtin .len,#[.tmp 23],#[22]⟩,none⟩,⟨some 25,.slice 22 (.tmp 22) none (some (.tmp 24)) none,none⟩,⟨some 0,.assign (.tmp 25),none⟩]) .skip))) (.seq (.reg [⟨some 26,.move (.tmp 0),none⟩,⟨some 4,.assign (.tmp 26),none⟩]) .ret)))
@[simp] theorem x97_s {C e s K} : type_of% (@X_at C e s K _ _ x97.eq_1) := X_at x97.eq_1
def an97 : Ann := ⟨[], [], []⟩
theorem fi97 : FI Try.prog 97 (cxA an97) x97 [.tmp 4] Try.f97 := fiA Try.func97 mixed
theorem Grow_fms (n : Nat) (hn : n ≤ 1000000) (h0 : 0 < n) : CallOK Try.prog 97 [.nilsl, .int .i64 (n : Int)] [] (.sl 0 0 0) [.rows 3 (List.replicate n [.int .i64 0, .str ⟨#[]⟩, .nilsl])] := by
 have h1 : (0 : Int) < n := by omega
 have h2 : ¬ ((n : Int) < 0) := by omega
 refine fi97.og ?_
 ((refine Sg.h ?_); try repeat' ((first | (with_reducible first | refine brA ?_ | refine brE fun _ => ?_ | (refine spl ⟨?_, ?_⟩ <;> intro _))) <;> ((try simp -implicitDefEqProofs [h1, h2]); (try simp -implicitDefEqProofs (disch := first | assumption | (try simp only [lens]); omega -splitDisjunctions) [h1, h2]))))
theorem Grow_fms0 : CallOK Try.prog 97 [.nilsl, .int .i64 0] [] .nilsl [] := by
 refine fi97.og ?_
 ((refine Sg.h ?_); try repeat' ((first | (with_reducible first | refine brA ?_ | refine brE fun _ => ?_ | (refine spl ⟨?_, ?_⟩ <;> intro _))) <;> ((try simp -implicitDefEqProofs); (try simp -implicitDefEqProofs (disch := first | assumption | (try simp only [lens]); omega -splitDisjunctions)))))
def x69_T3 : XC := .seq (.reg [⟨some 35,.move (.tmp 6),none⟩,⟨some 2,.assign (.tmp 35),none⟩]) .ret
def x69_L2 : XC := .seq (.reg [⟨some 28,.binOp .lss 3 (.tmp 27) (.tmp 26) 3,none⟩]) (.seq (.cond (.tmp 28) .skip (.exit 2)) (.seq (.block 3 (.seq (.reg [⟨some 29,.indexAddr 114 (.tmp 25) (.tmp 27),none⟩,⟨some 30,.load 22 (.tmp 29),none⟩,⟨some 8,.assign (.tmp 30),none⟩]) (.reg [⟨some 31,.move (.tmp 6),none⟩,⟨some 32,.move (.tmp 8),none⟩,⟨some 33,.call ⟨.builtin .append,#[.tmp 31,.tmp 32],#[22,22]⟩,none⟩,⟨some 6,.assign (.tmp 33),none⟩]))) (.reg [⟨some 34,.binOp .add 3 (.tmp 27) (.const (.int .i64 1)) 3,none⟩,⟨some 27,.move (.tmp 34),none⟩])))
def x69_T1 : XC := .seq (.reg [⟨some 23,.move (.tmp 3),none⟩,⟨some 24,.call ⟨.value (.func 97),#[.const (.slice none 0 0),.tmp 23],#[22,3]⟩,none⟩,⟨some 6,.assign (.tmp 24),none⟩]) (.seq (.seq (.reg [⟨some 25,.move (.tmp 0),none⟩,⟨some 26,.call ⟨.builtin .len,#[.tmp 25],#[114]⟩,none⟩,⟨some 27,.move (.const (.int .i64 0)),none⟩]) (.bloop 2 x69_L2)) (x69_T3))
def x69_L0 : XC := .seq (.reg [⟨some 12,.binOp .lss 3 (.tmp 11) (.tmp 10) 3,none⟩]) (.seq (.cond (.tmp 12) .skip (.exit 0)) (.seq (.block 1 (.seq (.reg [⟨some 13,.indexAddr 114 (.tmp 9) (.tmp 11),none⟩,⟨some 14,.load 22 (.tmp 13),none⟩,⟨some 5,.assign (.tmp 14),none⟩]) (.seq (.reg [⟨some 15,.move (.tmp 3),none⟩,⟨some 16,.move (.tmp 5),none⟩,⟨some 17,.call ⟨.builtin .len,#[.tmp 16],#[22]⟩,none⟩,⟨some 18,.binOp .add 3 (.tmp 15) (.tmp 17) 3,none⟩,⟨some 3,.assign (.tmp 18),none⟩]) (.seq (.reg [⟨some 19,.move (.tmp 3),none⟩,⟨some 20,.binOp .lss 3 (.tmp 19) (.const (.int .i64 0)) 3,none⟩]) (.cond (.tmp 20) (.reg [⟨some 21,.makeInterface 9 (.const (.string ⟨#[108,101,110,32,111,117,116,32,111,102,32,114,97,110,103,101]⟩)),none⟩,⟨none,.panic (.tmp 21),none⟩]) .skip))))) (.reg [⟨some 22,.binOp .add 3 (.tmp 11) (.const (.int .i64 1)) 3,none⟩,⟨some 11,.move (.tmp 22),none⟩])))
def x69 : XC := .seq (.reg [⟨some 2,.assign (.const (.slice none 0 0)),none⟩]) (.seq (.reg [⟨some 3,.assign (.const (.int .i64 0)),none⟩]) (.seq (.seq (.reg [⟨some 9,.move (.tmp 0),none⟩,⟨some 10,.call ⟨.builtin .len,#[.tmp 9],#[114]⟩,none⟩,⟨some 11,.move (.const (.int .i64 0)),none⟩]) (.bloop 0 x69_L0)) (x69_T1)))
@[simp] theorem x69_s {C e s K} : type_of% (@X_at C e s K _ _ x69_T3.eq_1) ∧ type_of% (@X_at C e s K _ _ x69_L2.eq_1) ∧ type_of% (@X_at C e s K _ _ x69_T1.eq_1) ∧ type_of% (@X_at C e s K _ _ x69_L0.eq_1) ∧ type_of% (@X_at C e s K _ _ x69.eq_1) := ⟨X_at x69_T3.eq_1, X_at x69_L2.eq_1, X_at x69_T1.eq_1, X_at x69_L0.eq_1, X_at x69.eq_1⟩
def an69 : Ann := ⟨[], [(2, [(6, none, 3)], [6, 25, 26, 27], [6]), (0, [], [0, 3, 9, 10, 11], [0, 3])], []⟩
@[simp] theorem an69_a : an69.loopOf 2 = ([(6, none, 3)], [6, 25, 26, 27], [6]) ∧ an69.loopOf 0 = ([], [0, 3, 9, 10, 11], [0, 3]) := ⟨rfl, rfl⟩
theorem fi69 : FI Try.prog 69 (cxA an69) x69 [.tmp 2] Try.f69 := fiA Try.func69 mixed
theorem Concat_fms (xss : List (List Fm)) (hl : xss.length ≤ 1000) (ht : xss.flatten.length ≤ 1000000) : CallOK Try.prog 69 [.list (xss.map fun xs => [.list (xs.map frm)])] [] (.list (xss.flatten.map frm)) [] := by
 refine fi69.os ?_
 ((refine Sg.h ?_); try repeat' ((first | (with_reducible first | refine brA ?_ | refine brE fun _ => ?_ | (refine spl ⟨?_, ?_⟩ <;> intro _))) <;> ((try simp -implicitDefEqProofs); (try simp -implicitDefEqProofs (disch := first | assumption | (try simp only [lens]); omega -splitDisjunctions)))))
 refine W_of fun Q hQ => ?_
 have main : ∀ n i, i + n = xss.length → Q [(0, .list (xss.map fun xs => [.list (xs.map frm)])), (3, .int .i64 ((xss.take i).flatten.length : Int)), (9, .list (xss.map fun xs => [.list (xs.map frm)])), (10, .int .i64 (xss.length : Int)), (11, .int .i64 (i : Int))] [] := by
  intro n
  induction n with
  | zero =>
   intro i hi
   obtain rfl : i = xss.length := by omega
   rw [List.take_length]
   have hg := Grow_fms xss.flatten.length ht
   have hg0 := Grow_fms0
   rcases Nat.eq_zero_or_pos xss.flatten.length with h0 | h0
   ·rw [h0]
    apply hQ
    clear hQ
    ((refine Sg.h ?_); try repeat' ((first | (with_reducible first | refine brA ?_ | refine brE fun _ => ?_ | (refine spl ⟨?_, ?_⟩ <;> intro _)) | refine clo hg0 ?_) <;> ((try simp -implicitDefEqProofs); (try simp -implicitDefEqProofs (disch := first | assumption | (try simp only [lens]); omega -splitDisjunctions)))))
    refine W_of fun Q hQ => ?_
    have main : ∀ n i rest, i + n = xss.length → Q [(6, .sl 0 0 (xss.take i).flatten.length), (25, .list (xss.map fun xs => [.list (xs.map frm)])), (26, .int .i64 (xss.length : Int)), (27, .int .i64 (i : Int))] [.rows 3 ((xss.take i).flatten.map frm ++ rest)] := by
     intro n
     induction n with
     | zero =>
      intro i rest hi
      obtain rfl : i = xss.length := by omega
      rw [List.take_length]
      have hLm : (xss.map (List.map frm)).flatten = xss.flatten.map frm := by simp [List.map_flatten]
      generalize xss.flatten = L at *
      apply hQ
      clear hQ
      ((refine Sg.h ?_); try repeat' ((first | (with_reducible first | refine brA ?_ | refine brE fun _ => ?_ | (refine spl ⟨?_, ?_⟩ <;> intro _))) <;> ((try simp -implicitDefEqProofs [hLm]); (try simp -implicitDefEqProofs (disch := first | assumption | (try simp only [lens]); omega -splitDisjunctions) [hLm]))))
     | succ n ih =>
      intro i rest hi
      have hil : i < xss.length := by omega
      have ih := ih (i + 1) [] (by omega)
      have hle := flat_len_le xss (i + 1)
      rw [take_snoc hil, List.flatten_append] at ih hle
      simp only [List.flatten_cons, List.flatten_nil, List.append_nil] at ih hle
      rw [List.length_append] at hle
      generalize (xss.take i).flatten = T at *
      apply hQ
      clear hQ
      ((refine Sg.h ?_); try repeat' ((first | (with_reducible first | refine brA ?_ | refine brE fun _ => ?_ | (refine spl ⟨?_, ?_⟩ <;> intro _))) <;> ((try simp -implicitDefEqProofs [hil]); (try simp -implicitDefEqProofs (disch := first | assumption | (try simp only [lens]); omega -splitDisjunctions) [hil]))))
      all_goals first | exact ih | (refine at2 ih ?_ ?_ <;> simp; done) | (exfalso; first | omega | (simp_all; done) | (simp_all; omega))
    have m0 := main xss.length 0 [] (by omega)
    all_goals first | exact m0 | (refine at2 m0 ?_ ?_ <;> simp; done) | (exfalso; first | omega | (simp_all; done) | (simp_all; omega))
   ·have hg := hg h0
    generalize hT : xss.flatten.length = T at *
    apply hQ
    clear hQ
    ((refine Sg.h ?_); try repeat' ((first | (with_reducible first | refine brA ?_ | refine brE fun _ => ?_ | (refine spl ⟨?_, ?_⟩ <;> intro _))) <;> ((try simp -implicitDefEqProofs); (try simp -implicitDefEqProofs (disch := first | assumption | (try simp only [lens]); omega -splitDisjunctions)))))
    refine CL.of hg ?_
    ((refine Sg.h ?_); try repeat' ((first | (with_reducible first | refine brA ?_ | refine brE fun _ => ?_ | (refine spl ⟨?_, ?_⟩ <;> intro _))) <;> ((try simp -implicitDefEqProofs); (try simp -implicitDefEqProofs (disch := first | assumption | (try simp only [lens]); omega -splitDisjunctions)))))
    refine W_of fun Q hQ => ?_
    have main : ∀ n i rest, i + n = xss.length → Q [(6, .sl 0 0 (xss.take i).flatten.length), (25, .list (xss.map fun xs => [.list (xs.map frm)])), (26, .int .i64 (xss.length : Int)), (27, .int .i64 (i : Int))] [.rows 3 ((xss.take i).flatten.map frm ++ rest)] := by
     intro n
     induction n with
     | zero =>
      intro i rest hi
      obtain rfl : i = xss.length := by omega
      rw [List.take_length]
      have hLm : (xss.map (List.map frm)).flatten = xss.flatten.map frm := by simp [List.map_flatten]
      generalize xss.flatten = L at *
      apply hQ
      clear hQ
      ((refine Sg.h ?_); try repeat' ((first | (with_reducible first | refine brA ?_ | refine brE fun _ => ?_ | (refine spl ⟨?_, ?_⟩ <;> intro _))) <;> ((try simp -implicitDefEqProofs [hLm]); (try simp -implicitDefEqProofs (disch := first | assumption | (try simp only [lens]); omega -splitDisjunctions) [hLm]))))
     | succ n ih =>
      intro i rest hi
      have hil : i < xss.length := by omega
      have ih := ih (i + 1) [] (by omega)
      have hle := flat_len_le xss (i + 1)
      rw [take_snoc hil, List.flatten_append] at ih hle
      simp only [List.flatten_cons, List.flatten_nil, List.append_nil] at ih hle
      rw [List.length_append] at hle
      generalize (xss.take i).flatten = T at *
      apply hQ
      clear hQ
      ((refine Sg.h ?_); try repeat' ((first | (with_reducible first | refine brA ?_ | refine brE fun _ => ?_ | (refine spl ⟨?_, ?_⟩ <;> intro _))) <;> ((try simp -implicitDefEqProofs [hil]); (try simp -implicitDefEqProofs (disch := first | assumption | (try simp only [lens]); omega -splitDisjunctions) [hil]))))
      all_goals first | exact ih | (refine at2 ih ?_ ?_ <;> simp; done) | (exfalso; first | omega | (simp_all; done) | (simp_all; omega))
    have m0 := main xss.length 0 (List.replicate T [.int .i64 0, .str ⟨#[]⟩, .nilsl]) (by omega)
    all_goals first | exact m0 | (refine at2 m0 ?_ ?_ <;> simp; done) | (exfalso; first | omega | (simp_all; done) | (simp_all; omega))
  | succ n ih =>
   intro i hi
   have hil : i < xss.length := by omega
   have ih := ih (i + 1) (by omega)
   rw [take_snoc hil, List.flatten_append, List.length_append] at ih
   simp only [List.flatten_cons, List.flatten_nil, List.append_nil] at ih
   have hle : ((xss.take i).flatten.length : Int) + (xss[i].length : Int) ≤ 1000000 := by
    have := flat_len_le xss (i + 1)
    rw [take_snoc hil, List.flatten_append, List.length_append] at this
    simp only [List.flatten_cons, List.flatten_nil, List.append_nil] at this
    omega
   generalize (xss.take i).flatten.length = T at *
   apply hQ
   clear hQ
   ((refine Sg.h ?_); try repeat' ((first | (with_reducible first | refine brA ?_ | refine brE fun _ => ?_ | (refine spl ⟨?_, ?_⟩ <;> intro _))) <;> ((try simp -implicitDefEqProofs [hil]); (try simp -implicitDefEqProofs (disch := first | assumption | (try simp only [lens]); omega -splitDisjunctions) [hil]))))
   all_goals first | exact ih | (refine at2 ih ?_ ?_ <;> simp; done) | (exfalso; first | omega | (simp_all; done) | (simp_all; omega))
 all_goals first | exact main _ 0 (Nat.zero_add _) | (refine at2 main _ 0 (Nat.zero_add _) ?_ ?_ <;> simp; done) | (exfalso; first | omega | (simp_all; done) | (simp_all; omega))
end Go.Proofs.Ytnoklmapofogeaa
