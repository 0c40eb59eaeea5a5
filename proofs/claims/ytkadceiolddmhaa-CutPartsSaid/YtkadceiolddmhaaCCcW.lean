import Derived.Test.YtkadceiolddmhaaCCcG
import Derived.Test.YtkadceiolddmhaaCPvQg
import Derived.Test.YtkadceiolddmhaaCQTn
import Derived.Test.YtkadceiolddmhaaCPvQt
set_option linter.unusedVariables false
set_option linter.unusedSimpArgs false
set_option maxRecDepth 100000
set_option maxHeartbeats 4000000
namespace Go.Proofs.Ytkadceiolddmhaa
open Go Go.Pv
inductive Szs : Pf → Prop where
 | mk {p : Pf} (h : Sz p) (hk : ∀ k ∈ p.kids, Szs k) (hl : p.kids.length ≤ 1000000) : Szs p
theorem Szs.sz {p : Pf} (h : Szs p) : Sz p := by cases h; assumption
theorem Szs.kid {p k : Pf} (h : Szs p) (hk : k ∈ p.kids) : Szs k := by cases h with | mk a b c => exact b k hk
theorem Szs.len {p : Pf} (h : Szs p) : p.kids.length ≤ 1000000 := by cases h; assumption
mutual
noncomputable def lookF (u : Bool) : Pf → Nat → Int → Nat × (Int × Int)
 | .mk a f l r ks, n, d =>
  if 20000 ≤ n ∨ 400 < d then (n + 1, (2, 0)) else
  if (sequentF l r).1 ≠ 0 ∨ (u = true ∧ 1 < r.length) then (n + 1, (5, (n : Int))) else
  if stepF u (.mk a f l r ks) ≠ 0 then (n + 1, (stepF u (.mk a f l r ks), (n : Int))) else looksF u ks (n + 1) (d + 1)
noncomputable def looksF (u : Bool) : List Pf → Nat → Int → Nat × (Int × Int)
 | [], n, _ => (n, (0, 0))
 | k :: ks, n, d => if (lookF u k n d).2.1 ≠ 0 then lookF u k n d else looksF u ks (lookF u k n d).1 d
end
theorem lookF_eq (u : Bool) (p : Pf) (n : Nat) (d : Int) : lookF u p n d =
  if 20000 ≤ n ∨ 400 < d then (n + 1, (2, 0)) else
  if (sequentF p.l p.r).1 ≠ 0 ∨ (u = true ∧ 1 < p.r.length) then (n + 1, (5, (n : Int))) else
  if stepF u p ≠ 0 then (n + 1, (stepF u p, (n : Int))) else looksF u p.kids (n + 1) (d + 1) := by
 cases p with | mk a f l r ks => rw [lookF]; rfl
theorem lookF_le (u : Bool) (p : Pf) : ∀ (n : Nat) (d : Int), n ≤ 20000 → (lookF u p n d).2.1 = 0 → (lookF u p n d).1 ≤ 20000 := by
 induction p using Pf.ind with
 | h p ih =>
  intro n d hn h
  rw [lookF_eq] at h ⊢
  have key : ∀ ks : List Pf, (∀ k ∈ ks, k ∈ p.kids) → ∀ (n : Nat) (d : Int), n ≤ 20000 → (looksF u ks n d).2.1 = 0 → (looksF u ks n d).1 ≤ 20000 := by
   intro ks
   induction ks with
   | nil => intro _ n d hn _; rw [looksF]; exact hn
   | cons k r ihr =>
    intro hm n d hn h
    rw [looksF] at h ⊢
    by_cases h0 : (lookF u k n d).2.1 = 0
    ·rw [if_neg (by simpa using h0)] at h ⊢
     exact ihr (fun k hk => hm k (.tail _ hk)) _ _ (ih k (hm k (.head _)) n d hn h0) h
    ·rw [if_pos h0] at h; exact absurd h h0
  by_cases h1 : 20000 ≤ n ∨ 400 < d
  ·rw [if_pos h1] at h; cases h
  ·rw [if_neg h1] at h ⊢
   by_cases h2 : (sequentF p.l p.r).1 ≠ 0 ∨ (u = true ∧ 1 < p.r.length)
   ·rw [if_pos h2] at h; cases h
   ·rw [if_neg h2] at h ⊢
    by_cases h3 : stepF u p ≠ 0
    ·rw [if_pos h3] at h; exact absurd h h3
    ·rw [if_neg h3] at h ⊢
     exact key _ (fun k hk => hk) _ _ (by omega) h
def x125_T1 : XC := .seq (.reg [⟨some 78,.build 33 #[],none⟩,⟨none,.store 33 (.tmp 6) (.tmp 78),none⟩]) .ret
def x125_L0 : XC := .seq (.reg [⟨some 65,.binOp .lss 3 (.tmp 64) (.tmp 63) 3,none⟩]) (.seq (.cond (.tmp 65) .skip (.exit 0)) (.seq (.block 1 (.seq (.reg [⟨some 66,.indexAddr 62 (.tmp 62) (.tmp 64),none⟩,⟨some 67,.load 64 (.tmp 66),none⟩,⟨some 10,.alloc 64,none⟩,⟨none,.store 64 (.tmp 10) (.tmp 67),none⟩]) (.seq (.reg [⟨some 68,.move (.tmp 0),none⟩,⟨some 69,.load 64 (.tmp 10),none⟩,⟨some 70,.move (.tmp 2),none⟩,⟨some 71,.binOp .add 3 (.tmp 70) (.const (.int .i64 1)) 3,none⟩,⟨some 72,.call ⟨.value (.func 125),#[.tmp 68,.tmp 69,.tmp 71],#[186,64,3]⟩,none⟩,⟨some 11,.alloc 33,none⟩,⟨none,.store 33 (.tmp 11) (.tmp 72),none⟩]) (.seq (.reg [⟨some 73,.fieldAddr 33 (.tmp 11) 0,none⟩,⟨some 74,.load 3 (.tmp 73),none⟩,⟨some 75,.binOp .neq 3 (.tmp 74) (.const (.int .i64 0)) 3,none⟩]) (.cond (.tmp 75) (.seq (.reg [⟨some 76,.load 33 (.tmp 11),none⟩,⟨none,.store 33 (.tmp 6) (.tmp 76),none⟩]) .ret) .skip))))) (.reg [⟨some 77,.binOp .add 3 (.tmp 64) (.const (.int .i64 1)) 3,none⟩,⟨some 64,.move (.tmp 77),none⟩])))
def x125 : XC := .seq (.reg [⟨some 4,.box 64 (.tmp 1),none⟩,⟨some 6,.alloc 33,none⟩]) (.seq (.reg [⟨some 12,.move (.tmp 0),none⟩,⟨some 13,.nilCheck (.tmp 12),none⟩,⟨some 14,.fieldAddr 188 (.tmp 13) 1,none⟩,⟨some 15,.load 3 (.tmp 14),none⟩,⟨some 7,.assign (.tmp 15),none⟩]) (.seq (.seq (.reg [⟨some 16,.move (.tmp 0),none⟩,⟨some 17,.nilCheck (.tmp 16),none⟩,⟨some 18,.fieldAddr 188 (.tmp 17) 1,none⟩,⟨some 19,.load 3 (.tmp 18),none⟩,⟨some 20,.binOp .add 3 (.tmp 19) (.const (.int .i64 1)) 3,none⟩,⟨some 21,.nilCheck (.tmp 16),none⟩,⟨some 22,.fieldAddr 188 (.tmp 21) 1,none⟩,⟨none,.store 3 (.tmp 22) (.tmp 20),none⟩]) (.seq (.reg [⟨some 23,.move (.tmp 7),none⟩,⟨some 24,.binOp .geq 3 (.tmp 23) (.const (.int .i64 20000)) 3,none⟩,⟨some 25,.move (.tmp 24),none⟩,⟨some 26,.move (.tmp 2),some (some 25,false)⟩,⟨some 27,.binOp .gtr 3 (.tmp 26) (.const (.int .i64 400)) 3,some (some 25,false)⟩,⟨some 28,.pick (.tmp 25) (.const (.bool true)) (.tmp 27),none⟩]) (.cond (.tmp 28) (.seq (.reg [⟨some 29,.call ⟨.value (.func 157),#[.const (.int .i64 2),.const (.int .i64 0)],#[3,3]⟩,none⟩,⟨none,.store 33 (.tmp 6) (.tmp 29),none⟩]) .ret) .skip))) (.seq (.seq (.reg [⟨some 30,.fieldAddr 64 (.tmp 4) 2,none⟩,⟨some 31,.load 61 (.tmp 30),none⟩,⟨some 32,.call ⟨.value (.func 158),#[.tmp 31],#[61]⟩,none⟩,⟨some 33,.field 33 (.tmp 32) 0,none⟩,⟨some 34,.binOp .neq 3 (.tmp 33) (.const (.int .i64 0)) 3,none⟩,⟨some 35,.move (.tmp 34),none⟩,⟨some 36,.move (.tmp 0),some (some 35,false)⟩,⟨some 37,.nilCheck (.tmp 36),some (some 35,false)⟩,⟨some 38,.fieldAddr 188 (.tmp 37) 0,some (some 35,false)⟩,⟨some 39,.load 4 (.tmp 38),some (some 35,false)⟩,⟨some 40,.move (.tmp 39),some (some 35,false)⟩,⟨some 41,.fieldAddr 64 (.tmp 4) 2,some (some 40,true)⟩,⟨some 42,.fieldAddr 61 (.tmp 41) 1,some (some 40,true)⟩,⟨some 43,.load 57 (.tmp 42),some (some 40,true)⟩,⟨some 44,.call ⟨.builtin .len,#[.tmp 43],#[57]⟩,some (some 40,true)⟩,⟨some 45,.binOp .gtr 3 (.tmp 44) (.const (.int .i64 1)) 3,some (some 40,true)⟩,⟨some 46,.pick (.tmp 40) (.tmp 45) (.const (.bool false)),some (some 35,false)⟩,⟨some 47,.pick (.tmp 35) (.const (.bool true)) (.tmp 46),none⟩]) (.cond (.tmp 47) (.seq (.reg [⟨some 48,.move (.tmp 7),none⟩,⟨some 49,.call ⟨.value (.func 157),#[.const (.int .i64 5),.tmp 48],#[3,3]⟩,none⟩,⟨none,.store 33 (.tmp 6) (.tmp 49),none⟩]) .ret) .skip)) (.seq (.seq (.drawn 7 [⟨some 50,.load 64 (.tmp 4),none⟩,⟨some 51,.move (.tmp 0),none⟩,⟨some 52,.nilCheck (.tmp 51),none⟩,⟨some 53,.fieldAddr 188 (.tmp 52) 0,none⟩,⟨some 54,.load 4 (.tmp 53),none⟩,⟨some 55,.call ⟨.value (.func 159),#[.tmp 50,.tmp 54],#[64,4]⟩,none⟩,⟨some 8,.assign (.tmp 55),none⟩]) (.seq (.reg [⟨some 56,.move (.tmp 8),none⟩,⟨some 57,.binOp .neq 3 (.tmp 56) (.const (.int .i64 0)) 3,none⟩]) (.cond (.tmp 57) (.seq (.reg [⟨some 58,.move (.tmp 8),none⟩,⟨some 59,.move (.tmp 7),none⟩,⟨some 60,.call ⟨.value (.func 157),#[.tmp 58,.tmp 59],#[3,3]⟩,none⟩,⟨none,.store 33 (.tmp 6) (.tmp 60),none⟩]) .ret) .skip))) (.seq (.seq (.reg [⟨some 61,.fieldAddr 64 (.tmp 4) 3,none⟩,⟨some 62,.load 62 (.tmp 61),none⟩,⟨some 63,.call ⟨.builtin .len,#[.tmp 62],#[62]⟩,none⟩,⟨some 64,.move (.const (.int .i64 0)),none⟩]) (.bloop 0 x125_L0)) (x125_T1))))))
@[simp] theorem x125_s {C e s K} : type_of% (@X_at C e s K _ _ x125_T1.eq_1) ∧ type_of% (@X_at C e s K _ _ x125_L0.eq_1) ∧ type_of% (@X_at C e s K _ _ x125.eq_1) := ⟨X_at x125_T1.eq_1, X_at x125_L0.eq_1, X_at x125.eq_1⟩
def an125 : Ann := ⟨[(7, .mix 5)], [(0, [], [0, 2, 6, 62, 63, 64], [6])], []⟩
@[simp] theorem an125_a : an125.clsOf 7 = .mix 5 ∧ an125.frzOf 7 = [] ∧ an125.loopOf 0 = ([], [0, 2, 6, 62, 63, 64], [6]) := ⟨rfl, rfl, rfl⟩
theorem fi125 : FI Try.prog 125 (cxA an125) x125 [.cell 6 33] Try.f125 := fiA Try.func125 mixed
theorem look_calculus (u : Bool) (p : Pf) (hp : Szs p) : ∀ (n : Nat) (d : Int), n ≤ 20000 → 1 ≤ d → d ≤ 401 → CallOK Try.prog 125 [.ptr 0 0 0, .agg (prf p), .int .i64 d] [.rows 2 [[.bool u, .int .i64 (n : Int)]]] (.agg [.int .i64 (lookF u p n d).2.1, .int .i64 (lookF u p n d).2.2]) [.rows 2 [[.bool u, .int .i64 ((lookF u p n d).1 : Int)]]] := by
 induction p using Pf.ind with
 | h p ih =>
  intro n d hn hd0 hd
  have hf := fun a b => fault_calculus a b
  have hq := CheckSequent_calculus p.l p.r (by have := hp.sz.l; omega) (by have := hp.sz.r; omega)
  have hst := step_calculus u p hp.sz (fun k hk => (hp.kid hk).sz)
  rw [lookF_eq]
  refine fi125.og ?_
  by_cases h1 : 20000 ≤ n
  ·have h1i : (20000 : Int) ≤ (n : Int) := by omega
   rw [if_pos (.inl h1)]
   ((refine Sg.h ?_); try repeat' ((first | (with_reducible first | refine brA ?_ | refine brE fun _ => ?_ | (refine spl ⟨?_, ?_⟩ <;> intro _)) | refine clo (hf 2 0) ?_) <;> ((try simp -implicitDefEqProofs [h1i]); (try simp -implicitDefEqProofs (disch := first | assumption | (try simp only [lens]); omega -splitDisjunctions) [h1i]))))
  ·have h1i : ¬ (20000 : Int) ≤ (n : Int) := by omega
   by_cases h2 : 400 < d
   ·rw [if_pos (.inr h2)]
    ((refine Sg.h ?_); try repeat' ((first | (with_reducible first | refine brA ?_ | refine brE fun _ => ?_ | (refine spl ⟨?_, ?_⟩ <;> intro _)) | refine clo (hf 2 0) ?_) <;> ((try simp -implicitDefEqProofs [h1i, h2]); (try simp -implicitDefEqProofs (disch := first | assumption | (try simp only [lens]); omega -splitDisjunctions) [h1i, h2]))))
   ·rw [if_neg (by omega)]
    by_cases h3 : (sequentF p.l p.r).1 = 0
    ·by_cases h4 : u = true ∧ 1 < p.r.length
     ·rw [if_pos (.inr h4)]
      obtain ⟨rfl, h4⟩ := h4
      have h4i : (1 : Int) < (p.r.length : Int) := by omega
      ((refine Sg.h ?_); try repeat' ((first | (with_reducible first | refine brA ?_ | refine brE fun _ => ?_ | (refine spl ⟨?_, ?_⟩ <;> intro _)) | refine clo hq ?_ | refine clo (hf 5 n) ?_) <;> ((try simp -implicitDefEqProofs [h1i, h2, h3, h4i]); (try simp -implicitDefEqProofs (disch := first | assumption | (try simp only [lens]); omega -splitDisjunctions) [h1i, h2, h3, h4i]))))
     ·rw [if_neg (by rintro (h | h); exact h h3; exact h4 h)]
      have h5 : u = false ∨ (u = true ∧ ¬ (1 : Int) < (p.r.length : Int)) := by
       cases u with
       | false => exact .inl rfl
       | true => exact .inr ⟨rfl, fun h => h4 ⟨rfl, by omega⟩⟩
      generalize hS : stepF u p = S at *
      by_cases h6 : S = 0
      ·rw [if_neg (by simpa using h6)]
       generalize hR : looksF u p.kids (n + 1) (d + 1) = R at *
       have key : p.kids.length ≤ 9223372036854775807 → W ((cxA an125) Try.prog 1) 0 x125_L0 (KS.seq x125_T1 (KS.fin [ResultVar.cell 6 33] (gcFin 1 (PV.agg [PV.int IntKind.i64 R.snd.fst, PV.int IntKind.i64 R.snd.snd]) [PObj.rows 2 [[PV.bool u, PV.int IntKind.i64 ↑R.fst]]]))) [(0, PV.ptr 0 0 0), (2, PV.int IntKind.i64 d), (6, PV.ptr 1 0 0), (62, PV.list (List.map prf p.kids)), (63, PV.int IntKind.i64 ↑p.kids.length), (64, PV.int IntKind.i64 0)] [PObj.rows 2 [[PV.bool u, PV.int IntKind.i64 ((n : Int) + 1)]], PObj.rows 2 [[PV.int IntKind.i64 0, PV.int IntKind.i64 0]]] := by
        intro hkl
        refine W_of fun Q hQ => ?_
        have main : ∀ j i m, i + j = p.kids.length → m ≤ 20000 → looksF u (p.kids.drop i) m (d + 1) = R → Q [(0, PV.ptr 0 0 0), (2, PV.int IntKind.i64 d), (6, PV.ptr 1 0 0), (62, PV.list (List.map prf p.kids)), (63, PV.int IntKind.i64 ↑p.kids.length), (64, PV.int IntKind.i64 (i : Int))] [PObj.rows 2 [[PV.bool u, PV.int IntKind.i64 (m : Int)]], PObj.rows 2 [[PV.int IntKind.i64 0, PV.int IntKind.i64 0]]] := by
         intro j
         induction j with
         | zero =>
          intro i m hi hm he
          rw [List.drop_of_length_le (by omega), looksF] at he
          apply hQ
          clear hQ
          subst he
          ((refine Sg.h ?_); try repeat' ((first | (with_reducible first | refine brA ?_ | refine brE fun _ => ?_ | (refine spl ⟨?_, ?_⟩ <;> intro _))) <;> ((try simp -implicitDefEqProofs); (try simp -implicitDefEqProofs (disch := first | assumption | (try simp only [lens]); omega -splitDisjunctions)))))
         | succ j ihj =>
          intro i m hi hm he
          have hil : i < p.kids.length := by omega
          have hkm := List.getElem_mem hil
          have hc := ih _ hkm (hp.kid hkm) m (d + 1) hm (by omega) (by omega)
          have hle := lookF_le u p.kids[i] m (d + 1) hm
          rw [List.drop_eq_getElem_cons hil, looksF] at he
          have ihj := ihj (i + 1)
          generalize lookF u p.kids[i] m (d + 1) = V at *
          obtain ⟨c, a, b⟩ := V
          dsimp only at hc hle he
          apply hQ
          clear hQ
          by_cases h0 : a = 0
          ·rw [if_neg (by simpa using h0)] at he
           have ihj := ihj c (by omega) (hle h0) he
           subst h0
           ((refine Sg.h ?_); try repeat' ((first | (with_reducible first | refine brA ?_ | refine brE fun _ => ?_ | (refine spl ⟨?_, ?_⟩ <;> intro _))) <;> ((try simp -implicitDefEqProofs [hil]); (try simp -implicitDefEqProofs (disch := first | assumption | (try simp only [lens]); omega -splitDisjunctions) [hil]))))
           refine CL.sub [0] (hc := by simpa using hc) ?_
           ((refine Sg.h ?_); try repeat' ((first | (with_reducible first | refine brA ?_ | refine brE fun _ => ?_ | (refine spl ⟨?_, ?_⟩ <;> intro _))) <;> ((try simp -implicitDefEqProofs); (try simp -implicitDefEqProofs (disch := first | assumption | (try simp only [lens]); omega -splitDisjunctions)))))
           all_goals first | exact ihj | (refine at2 ihj ?_ ?_ <;> simp; done) | (exfalso; first | omega | (simp_all; done) | (simp_all; omega))
          ·rw [if_pos h0] at he
           subst he
           ((refine Sg.h ?_); try repeat' ((first | (with_reducible first | refine brA ?_ | refine brE fun _ => ?_ | (refine spl ⟨?_, ?_⟩ <;> intro _))) <;> ((try simp -implicitDefEqProofs [hil]); (try simp -implicitDefEqProofs (disch := first | assumption | (try simp only [lens]); omega -splitDisjunctions) [hil]))))
           refine CL.sub [0] (hc := by simpa using hc) ?_
           ((refine Sg.h ?_); try repeat' ((first | (with_reducible first | refine brA ?_ | refine brE fun _ => ?_ | (refine spl ⟨?_, ?_⟩ <;> intro _))) <;> ((try simp -implicitDefEqProofs [h0]); (try simp -implicitDefEqProofs (disch := first | assumption | (try simp only [lens]); omega -splitDisjunctions) [h0]))))
        have m0 := main _ 0 (n + 1) (Nat.zero_add _) (by omega) (by simpa using hR)
        all_goals first | exact m0 | (refine at2 m0 ?_ ?_ <;> simp; done) | (exfalso; first | omega | (simp_all; done) | (simp_all; omega))
       rcases h5 with rfl | ⟨rfl, h5⟩
       ·((refine Sg.h ?_); try repeat' ((first | (with_reducible first | refine brA ?_ | refine brE fun _ => ?_ | (refine spl ⟨?_, ?_⟩ <;> intro _)) | refine clo hq ?_ | refine clo hst ?_) <;> ((try simp -implicitDefEqProofs [h1i, h2, h3, h6]); (try simp -implicitDefEqProofs (disch := first | assumption | (try simp only [lens]); omega -splitDisjunctions) [h1i, h2, h3, h6]))))
        all_goals exact key (by assumption)
       ·((refine Sg.h ?_); try repeat' ((first | (with_reducible first | refine brA ?_ | refine brE fun _ => ?_ | (refine spl ⟨?_, ?_⟩ <;> intro _)) | refine clo hq ?_ | refine clo hst ?_) <;> ((try simp -implicitDefEqProofs [h1i, h2, h3, h5, h6]); (try simp -implicitDefEqProofs (disch := first | assumption | (try simp only [lens]); omega -splitDisjunctions) [h1i, h2, h3, h5, h6]))))
        all_goals exact key (by assumption)
      ·rw [if_pos h6]
       rcases h5 with rfl | ⟨rfl, h5⟩
       ·((refine Sg.h ?_); try repeat' ((first | (with_reducible first | refine brA ?_ | refine brE fun _ => ?_ | (refine spl ⟨?_, ?_⟩ <;> intro _)) | refine clo hq ?_ | refine clo hst ?_ | refine clo (hf S n) ?_) <;> ((try simp -implicitDefEqProofs [h1i, h2, h3, h6]); (try simp -implicitDefEqProofs (disch := first | assumption | (try simp only [lens]); omega -splitDisjunctions) [h1i, h2, h3, h6]))))
       ·((refine Sg.h ?_); try repeat' ((first | (with_reducible first | refine brA ?_ | refine brE fun _ => ?_ | (refine spl ⟨?_, ?_⟩ <;> intro _)) | refine clo hq ?_ | refine clo hst ?_ | refine clo (hf S n) ?_) <;> ((try simp -implicitDefEqProofs [h1i, h2, h3, h5, h6]); (try simp -implicitDefEqProofs (disch := first | assumption | (try simp only [lens]); omega -splitDisjunctions) [h1i, h2, h3, h5, h6]))))
    ·rw [if_pos (.inl h3)]
     generalize sequentF p.l p.r = E at *
     ((refine Sg.h ?_); try repeat' ((first | (with_reducible first | refine brA ?_ | refine brE fun _ => ?_ | (refine spl ⟨?_, ?_⟩ <;> intro _)) | refine clo hq ?_ | refine clo (hf 5 n) ?_) <;> ((try simp -implicitDefEqProofs [h1i, h2, h3]); (try simp -implicitDefEqProofs (disch := first | assumption | (try simp only [lens]); omega -splitDisjunctions) [h1i, h2, h3]))))
def x85 : XC := .seq (.reg [⟨some 2,.box 64 (.tmp 0),none⟩,⟨some 4,.alloc 33,none⟩]) (.seq (.reg [⟨some 6,.move (.tmp 1),none⟩,⟨some 7,.build 188 #[(0,.tmp 6)],none⟩,⟨some 8,.box 188 (.tmp 7),none⟩,⟨some 5,.assign (.tmp 8),none⟩]) (.seq (.reg [⟨some 9,.move (.tmp 5),none⟩,⟨some 10,.load 64 (.tmp 2),none⟩,⟨some 11,.call ⟨.value (.func 125),#[.tmp 9,.tmp 10,.const (.int .i64 1)],#[186,64,3]⟩,none⟩,⟨none,.store 33 (.tmp 4) (.tmp 11),none⟩]) .ret))
@[simp] theorem x85_s {C e s K} : type_of% (@X_at C e s K _ _ x85.eq_1) := X_at x85.eq_1
def an85 : Ann := ⟨[], [], []⟩
theorem fi85 : FI Try.prog 85 (cxA an85) x85 [.cell 4 33] Try.f85 := fiA Try.func85 mixed
noncomputable def checkF (u : Bool) (p : Pf) : Int × Int := (lookF u p 0 1).2
theorem Check_calculus (u : Bool) (p : Pf) (hp : Szs p) : CallOK Try.prog 85 [.agg (prf p), .bool u] [] (.agg [.int .i64 (checkF u p).1, .int .i64 (checkF u p).2]) [] := by
 have h := look_calculus u p hp 0 1 (by omega) (by decide) (by decide)
 unfold checkF
 generalize lookF u p 0 1 = V at *
 refine fi85.op ?_
 ((refine Sg.h ?_); try repeat' ((first | (with_reducible first | refine brA ?_ | refine brE fun _ => ?_ | (refine spl ⟨?_, ?_⟩ <;> intro _))) <;> ((try simp -implicitDefEqProofs); (try simp -implicitDefEqProofs (disch := first | assumption | (try simp only [lens]); omega -splitDisjunctions)))))
 refine CL.sub [2] (hc := by simpa using h) ?_
 ((refine Sg.h ?_); try repeat' ((first | (with_reducible first | refine brA ?_ | refine brE fun _ => ?_ | (refine spl ⟨?_, ?_⟩ <;> intro _))) <;> ((try simp -implicitDefEqProofs); (try simp -implicitDefEqProofs (disch := first | assumption | (try simp only [lens]); omega -splitDisjunctions)))))
end Go.Proofs.Ytkadceiolddmhaa
namespace Go.Pv
open Go
theorem callOK_softR {P : Program} {f : FuncId} {args : List PV} {v v' : PV} {s s' : Store} (h : CallOK P f args s v' s') (hs : Soft v v') : CallOK P f args s v s' := by
 intro pub σ w cargs hb ha
 refine (h pub σ w cargs hb ha).mono ?_
 rintro e w' ⟨cv, pub', σ', rfl, h1, h2⟩
 exact ⟨cv, pub', σ', rfl, h1, hs.rel h2⟩
end Go.Pv
namespace Go.Proofs.Ytkadceiolddmhaa
open Go Go.Pv
def pF : Fm := .mk 1 ⟨#[112]⟩ []
def npF : Fm := .mk 4 ⟨#[]⟩ [pF]
def lemF : Fm := .mk 6 ⟨#[]⟩ [pF, npF]
def axP : Pf := .mk ⟨#[97, 120]⟩ pF [pF] [pF] []
def notP : Pf := .mk ⟨#[110, 111, 116, 45, 114]⟩ npF [] [pF, npF] [axP]
def middleP : Pf := .mk ⟨#[111, 114, 45, 114]⟩ lemF [] [lemF] [notP]
def x122 : XC := .seq (.reg [⟨some 2,.alloc 59,none⟩]) (.seq (.reg [⟨some 3,.move (.tmp 0),none⟩,⟨some 4,.build 59 #[(0,.const (.int .i64 1)),(1,.tmp 3)],none⟩,⟨none,.store 59 (.tmp 2) (.tmp 4),none⟩]) .ret)
@[simp] theorem x122_s {C e s K} : type_of% (@X_at C e s K _ _ x122.eq_1) := X_at x122.eq_1
def an122 : Ann := ⟨[], [], []⟩
theorem fi122 : FI Try.prog 122 (cxA an122) x122 [.cell 2 59] Try.f122 := fiA Try.func122 mixed
theorem named_p : CallOK Try.prog 122 [.str ⟨#[112]⟩] [] (.agg (frm pF)) [] := by
 refine fi122.os ?_
 ((refine Sg.h ?_); try repeat' ((first | (with_reducible first | refine brA ?_ | refine brE fun _ => ?_ | (refine spl ⟨?_, ?_⟩ <;> intro _))) <;> ((try simp -implicitDefEqProofs); (try simp -implicitDefEqProofs (disch := first | assumption | (try simp only [lens]); omega -splitDisjunctions)))))
 rw [frm_eq]; rfl
def x123 : XC := .seq (.reg [⟨some 3,.box 59 (.tmp 1),none⟩,⟨some 4,.alloc 59,none⟩]) (.seq (.reg [⟨some 5,.move (.tmp 0),none⟩,⟨some 6,.load 59 (.tmp 3),none⟩,⟨some 7,.buildSlice 57 1 #[(0,.tmp 6)],none⟩,⟨some 8,.build 59 #[(0,.tmp 5),(2,.tmp 7)],none⟩,⟨none,.store 59 (.tmp 4) (.tmp 8),none⟩]) .ret)
@[simp] theorem x123_s {C e s K} : type_of% (@X_at C e s K _ _ x123.eq_1) := X_at x123.eq_1
def an123 : Ann := ⟨[], [], []⟩
theorem fi123 : FI Try.prog 123 (cxA an123) x123 [.cell 4 59] Try.f123 := fiA Try.func123 mixed
theorem of_np : CallOK Try.prog 123 [.int .i64 4, .agg (frm pF)] [] (.agg (frm npF)) [] := by
 refine fi123.op ?_
 unfold npF
 rw [frm_eq (Fm.mk _ _ _)]
 ((refine Sg.h ?_); try repeat' ((first | (with_reducible first | refine brA ?_ | refine brE fun _ => ?_ | (refine spl ⟨?_, ?_⟩ <;> intro _))) <;> ((try simp -implicitDefEqProofs); (try simp -implicitDefEqProofs (disch := first | assumption | (try simp only [lens]); omega -splitDisjunctions)))))
def x124 : XC := .seq (.reg [⟨some 4,.box 59 (.tmp 1),none⟩,⟨some 5,.box 59 (.tmp 2),none⟩,⟨some 6,.alloc 59,none⟩]) (.seq (.reg [⟨some 7,.move (.tmp 0),none⟩,⟨some 8,.load 59 (.tmp 4),none⟩,⟨some 9,.load 59 (.tmp 5),none⟩,⟨some 10,.buildSlice 57 2 #[(0,.tmp 8),(1,.tmp 9)],none⟩,⟨some 11,.build 59 #[(0,.tmp 7),(2,.tmp 10)],none⟩,⟨none,.store 59 (.tmp 6) (.tmp 11),none⟩]) .ret)
@[simp] theorem x124_s {C e s K} : type_of% (@X_at C e s K _ _ x124.eq_1) := X_at x124.eq_1
def an124 : Ann := ⟨[], [], []⟩
theorem fi124 : FI Try.prog 124 (cxA an124) x124 [.cell 6 59] Try.f124 := fiA Try.func124 mixed
theorem both_lem : CallOK Try.prog 124 [.int .i64 6, .agg (frm pF), .agg (frm npF)] [] (.agg (frm lemF)) [] := by
 refine fi124.op ?_
 unfold lemF
 rw [frm_eq (Fm.mk _ _ _)]
 ((refine Sg.h ?_); try repeat' ((first | (with_reducible first | refine brA ?_ | refine brE fun _ => ?_ | (refine spl ⟨?_, ?_⟩ <;> intro _))) <;> ((try simp -implicitDefEqProofs); (try simp -implicitDefEqProofs (disch := first | assumption | (try simp only [lens]); omega -splitDisjunctions)))))
def x84 : XC := .seq (.reg [⟨some 0,.alloc 64,none⟩]) (.seq (.reg [⟨some 4,.call ⟨.value (.func 122),#[.const (.string ⟨#[112]⟩)],#[9]⟩,none⟩,⟨some 1,.alloc 59,none⟩,⟨none,.store 59 (.tmp 1) (.tmp 4),none⟩]) (.seq (.reg [⟨some 5,.load 59 (.tmp 1),none⟩,⟨some 6,.call ⟨.value (.func 123),#[.const (.int .i64 4),.tmp 5],#[3,59]⟩,none⟩,⟨some 2,.alloc 59,none⟩,⟨none,.store 59 (.tmp 2) (.tmp 6),none⟩]) (.seq (.reg [⟨some 7,.load 59 (.tmp 1),none⟩,⟨some 8,.load 59 (.tmp 2),none⟩,⟨some 9,.call ⟨.value (.func 124),#[.const (.int .i64 6),.tmp 7,.tmp 8],#[3,59,59]⟩,none⟩,⟨some 3,.alloc 59,none⟩,⟨none,.store 59 (.tmp 3) (.tmp 9),none⟩]) (.seq (.reg [⟨some 10,.load 59 (.tmp 3),none⟩,⟨some 11,.load 59 (.tmp 3),none⟩,⟨some 12,.buildSlice 57 1 #[(0,.tmp 11)],none⟩,⟨some 13,.build 61 #[(1,.tmp 12)],none⟩,⟨some 14,.load 59 (.tmp 2),none⟩,⟨some 15,.load 59 (.tmp 1),none⟩,⟨some 16,.load 59 (.tmp 2),none⟩,⟨some 17,.buildSlice 57 2 #[(0,.tmp 15),(1,.tmp 16)],none⟩,⟨some 18,.build 61 #[(1,.tmp 17)],none⟩,⟨some 19,.load 59 (.tmp 1),none⟩,⟨some 20,.load 59 (.tmp 1),none⟩,⟨some 21,.buildSlice 57 1 #[(0,.tmp 20)],none⟩,⟨some 22,.load 59 (.tmp 1),none⟩,⟨some 23,.buildSlice 57 1 #[(0,.tmp 22)],none⟩,⟨some 24,.build 61 #[(0,.tmp 21),(1,.tmp 23)],none⟩,⟨some 25,.build 64 #[(0,.const (.string ⟨#[97,120]⟩)),(1,.tmp 19),(2,.tmp 24)],none⟩,⟨some 26,.buildSlice 62 1 #[(0,.tmp 25)],none⟩,⟨some 27,.build 64 #[(0,.const (.string ⟨#[110,111,116,45,114]⟩)),(1,.tmp 14),(2,.tmp 18),(3,.tmp 26)],none⟩,⟨some 28,.buildSlice 62 1 #[(0,.tmp 27)],none⟩,⟨some 29,.build 64 #[(0,.const (.string ⟨#[111,114,45,114]⟩)),(1,.tmp 10),(2,.tmp 13),(3,.tmp 28)],none⟩,⟨none,.store 64 (.tmp 0) (.tmp 29),none⟩]) .ret))))
@[simp] theorem x84_s {C e s K} : type_of% (@X_at C e s K _ _ x84.eq_1) := X_at x84.eq_1
def an84 : Ann := ⟨[], [], []⟩
theorem fi84 : FI Try.prog 84 (cxA an84) x84 [.cell 0 64] Try.f84 := fiA Try.func84 mixed
theorem e_pF : frm pF = [.int .i64 1, .str ⟨#[112]⟩, .list []] := by rw [frm_eq]; rfl
theorem e_npF : frm npF = [.int .i64 4, .str ⟨#[]⟩, .list [[.int .i64 1, .str ⟨#[112]⟩, .list []]]] := by rw [frm_eq, ← e_pF]; rfl
theorem e_lemF : frm lemF = [.int .i64 6, .str ⟨#[]⟩, .list [[.int .i64 1, .str ⟨#[112]⟩, .list []], [.int .i64 4, .str ⟨#[]⟩, .list [[.int .i64 1, .str ⟨#[112]⟩, .list []]]]]] := by rw [frm_eq, ← e_npF, ← e_pF]; rfl
theorem middle_law : CallOK Try.prog 84 [] [] (.agg (prf middleP)) [] := by
 have h1 := named_p
 have h2 := of_np
 have h3 := both_lem
 rw [e_pF] at h1 h2 h3
 rw [e_npF] at h2 h3
 rw [e_lemF] at h3
 refine callOK_softR (v' := ?v) (fi84.op ?_) ?_
 rotate_left 1
 ·((refine Sg.h ?_); try repeat' ((first | (with_reducible first | refine brA ?_ | refine brE fun _ => ?_ | (refine spl ⟨?_, ?_⟩ <;> intro _)) | refine clo h1 ?_ | refine clo h2 ?_ | refine clo h3 ?_) <;> ((try simp -implicitDefEqProofs); (try simp -implicitDefEqProofs (disch := first | assumption | (try simp only [lens]); omega -splitDisjunctions)))))
  exact rfl
 ·have e : prf middleP = [.str ⟨#[111, 114, 45, 114]⟩, .int .i64 6, .str ⟨#[]⟩, .list [frm pF, frm npF], .list [], .list [frm lemF], .list [[.str ⟨#[110, 111, 116, 45, 114]⟩, .int .i64 4, .str ⟨#[]⟩, .list [frm pF], .list [], .list [frm pF, frm npF], .list [[.str ⟨#[97, 120]⟩, .int .i64 1, .str ⟨#[112]⟩, .list [], .list [frm pF], .list [frm pF], .list []]]]]] := by
   rw [prf_eq]
   have e1 : prf axP = [.str ⟨#[97, 120]⟩, .int .i64 1, .str ⟨#[112]⟩, .list [], .list [frm pF], .list [frm pF], .list []] := by rw [prf_eq]; rfl
   have e2 : prf notP = [.str ⟨#[110, 111, 116, 45, 114]⟩, .int .i64 4, .str ⟨#[]⟩, .list [frm pF], .list [], .list [frm pF, frm npF], .list [prf axP]] := by rw [prf_eq]; rfl
   rw [← e1, ← e2]; rfl
  rw [e, e_pF, e_npF, e_lemF]
  repeat' (first | exact SoftL.nil | exact SoftR.nil | exact Soft.nil | exact Soft.refl | apply Soft.agg | apply Soft.list | apply SoftL.cons | apply SoftR.cons)
theorem mid_pl : (plainF pF).1 = 0 ∧ (plainF npF).1 = 0 ∧ (plainF lemF).1 = 0 := ⟨by kernel_rfl, by kernel_rfl, by kernel_rfl⟩
theorem step_ok {u : Bool} {p : Pf} {e : Ent} {qs : List Prem} (hw : p.rule ≠ ⟨#[119, 101, 97, 107]⟩) (h : ruleT u p.rule = some e) (hp : (plainF p.f).1 = 0) (hb : e.R p.f p.l p.r = (qs, true)) (hl : p.kids.length = qs.length) (hm : meetB qs p.kids = true) : stepF u p = 0 := by
 unfold stepF
 rw [if_neg hw, h]
 dsimp only
 rw [hb, if_neg (by simpa using hp), if_neg (by simp), if_neg (by simpa using hl), if_pos hm]
theorem hasF_of {l : List Fm} {f : Fm} (h : f ∈ l) : hasF l f = true := hasF_iff.2 h
theorem same_self (l : List Fm) : sameF l l = true := by
 unfold sameF
 have : ∀ l : List Fm, withinF l l = true := by
  intro l
  induction l with
  | nil => rfl
  | cons a r ih => rw [withinF, hasF_of List.mem_cons_self, List.erase_cons_head, ih]; rfl
 rw [this]; simp
theorem mid_ax : stepF false axP = 0 := by
 refine step_ok (e := ⟨201, [], axR⟩) (qs := []) (by decide) (by kernel_rfl) mid_pl.1 ?_ rfl rfl
 show axR pF [pF] [pF] = _
 unfold axR
 rw [hasF_of (by simp)]; rfl
theorem mid_not : stepF false notP = 0 := by
 refine step_ok (e := ⟨210, [], notRR⟩) (qs := [([pF], [pF])]) (by decide) (by kernel_rfl) mid_pl.2.1 ?_ rfl ?_
 ·show notRR npF [] [pF, npF] = _
  unfold notRR kindF
  have hne : (pF == npF) = false := by
   rw [Bool.eq_false_iff]; intro h
   have h2 : Fm.kind pF = Fm.kind npF := by rw [eq_of_beq h]
   exact absurd h2 (by decide)
  rw [hasF_of (by simp), List.erase_cons_tail (by rw [hne]; simp), List.erase_cons_head]; rfl
 ·show (sameF [pF] [pF] && sameF [pF] [pF] && meetB [] []) = true
  rw [same_self]; rfl
theorem mid_or : stepF false middleP = 0 := by
 refine step_ok (e := ⟨212, [], orRR⟩) (qs := [([], [pF, npF])]) (by decide) (by kernel_rfl) mid_pl.2.2 ?_ rfl ?_
 ·show orRR lemF [] [lemF] = _
  unfold orRR kindF
  rw [hasF_of (by simp), List.erase_cons_head]; rfl
 ·show (sameF [] [] && sameF [pF, npF] [pF, npF] && meetB [] []) = true
  rw [same_self, same_self]; rfl
theorem mid_false : checkF false middleP = (0, 0) := by
 have e1 : ∀ n, lookF false axP 2 n = if 20000 ≤ 2 ∨ 400 < n then (3, (2, 0)) else (3, (0, 0)) := by
  intro n
  rw [lookF_eq, mid_ax]
  rfl
 unfold checkF
 rw [lookF_eq, mid_or]
 show (looksF false [notP] 1 2).2 = _
 rw [looksF, looksF, lookF_eq, mid_not]
 show (if (looksF false [axP] 2 3).2.1 ≠ 0 then looksF false [axP] 2 3 else ((looksF false [axP] 2 3).1, (0, 0))).2 = _
 rw [looksF, looksF, e1]
 rfl
end Go.Proofs.Ytkadceiolddmhaa
namespace Go.Pv
open Go
@[simp] theorem range_lit1 : List.range 1 = [0] := rfl
@[simp] theorem range_lit2 : List.range 2 = [0, 1] := rfl
@[simp] theorem range_lit3 : List.range 3 = [0, 1, 2] := rfl
@[simp] theorem range_lit4 : List.range 4 = [0, 1, 2, 3] := rfl
@[simp] theorem range_lit5 : List.range 5 = [0, 1, 2, 3, 4] := rfl
@[simp] theorem range_lit6 : List.range 6 = [0, 1, 2, 3, 4, 5] := rfl
@[simp] theorem range_lit7 : List.range 7 = [0, 1, 2, 3, 4, 5, 6] := rfl
@[simp] theorem range_lit8 : List.range 8 = [0, 1, 2, 3, 4, 5, 6, 7] := rfl
@[simp] theorem range_lit9 : List.range 9 = [0, 1, 2, 3, 4, 5, 6, 7, 8] := rfl
@[simp] theorem range_lit10 : List.range 10 = [0, 1, 2, 3, 4, 5, 6, 7, 8, 9] := rfl
@[simp] theorem range_lit11 : List.range 11 = [0, 1, 2, 3, 4, 5, 6, 7, 8, 9, 10] := rfl
@[simp] theorem range_lit12 : List.range 12 = [0, 1, 2, 3, 4, 5, 6, 7, 8, 9, 10, 11] := rfl
end Go.Pv
namespace Go.Proofs.Ytkadceiolddmhaa
open Go Go.Pv
theorem withinF_perm : ∀ (b c : List Fm), withinF b c = true → ∃ d, c.Perm (b ++ d)
 | [], c, _ => ⟨c, List.Perm.refl _⟩
 | f :: b, c, h => by
  rw [withinF, Bool.and_eq_true, hasF_iff] at h
  obtain ⟨d, hd⟩ := withinF_perm b _ h.2
  exact ⟨d, (List.perm_cons_erase h.1).trans (hd.cons f)⟩
theorem withinF_of {b : List Fm} : ∀ {c d : List Fm}, c.Perm (b ++ d) → withinF b c = true := by
 induction b with
 | nil => intros; rfl
 | cons f b ih =>
  intro c d h
  rw [withinF, Bool.and_eq_true, hasF_iff]
  refine ⟨h.mem_iff.2 (by simp), ih (d := d) ?_⟩
  have := h.erase f
  rwa [List.cons_append, List.erase_cons_head] at this
theorem withinF_iff {b c : List Fm} : withinF b c = true ↔ ∃ d, c.Perm (b ++ d) := ⟨withinF_perm b c, fun ⟨_, h⟩ => withinF_of h⟩
theorem sameF_iff {b c : List Fm} : sameF b c = true ↔ c.Perm b := by
 unfold sameF
 rw [Bool.and_eq_true, decide_eq_true_eq, withinF_iff]
 constructor
 ·rintro ⟨hl, d, hd⟩
  have := hd.length_eq
  rw [List.length_append] at this
  have : d = [] := List.length_eq_zero_iff.1 (by omega)
  subst this; simpa using hd
 ·intro h
  exact ⟨h.length_eq.symm, [], by simpa using h⟩
theorem within_mem {b c : List Fm} (h : withinF b c = true) {x : Fm} (hx : x ∈ b) : x ∈ c := by
 obtain ⟨d, hd⟩ := withinF_iff.1 h
 exact hd.mem_iff.2 (List.mem_append_left _ hx)
section
variable {v : ByteArray → Bool} {l r : List Fm} {f : Fm}
end
theorem kindF_iff {f : Fm} {k : Int} {l : List Fm} : kindF f k l = true ↔ f.kind = k ∧ f ∈ l := by simp [kindF, hasF_iff]
inductive Fine (u : Bool) : Pf → Prop where
 | mk {p : Pf} (hs : (sequentF p.l p.r).1 = 0) (hi : u = true → p.r.length ≤ 1) (h : stepF u p = 0) (hk : ∀ k ∈ p.kids, Fine u k) : Fine u p
theorem Fine.of_look {u : Bool} : ∀ (p : Pf) (n : Nat) (d : Int), (lookF u p n d).2.1 = 0 → Fine u p := by
 intro p
 induction p using Pf.ind with
 | h p ih =>
  intro n d h
  rw [lookF_eq] at h
  split at h
  ·cases h
  ·split at h
   ·cases h
   ·rename_i h2
    split at h
    ·rename_i h3; exact absurd h h3
    ·rename_i h3
     have key : ∀ ks : List Pf, (∀ k ∈ ks, k ∈ p.kids) → ∀ (n : Nat) (d : Int), (looksF u ks n d).2.1 = 0 → ∀ k ∈ ks, Fine u k := by
      intro ks
      induction ks with
      | nil => intro _ _ _ _ k hk; cases hk
      | cons a r ihr =>
       intro hm n d h k hk
       rw [looksF] at h
       by_cases h0 : (lookF u a n d).2.1 = 0
       ·rw [if_neg (by simpa using h0)] at h
        rcases List.mem_cons.1 hk with rfl | hk
        ·exact ih _ (hm _ (.head _)) _ _ h0
        ·exact ihr (fun k hk => hm k (.tail _ hk)) _ _ h k hk
       ·rw [if_pos h0] at h; exact absurd h h0
     refine .mk (Classical.byContradiction fun g => h2 (.inl g)) (fun hu => ?_) (Classical.byContradiction fun g => h3 g) (key _ (fun k hk => hk) _ _ h)
     have : ¬ 1 < p.r.length := fun g => h2 (.inr ⟨hu, g⟩)
     omega
theorem seqGo_all : ∀ {l : List Fm} {i : Nat}, (seqGo l i).1 = 0 → ∀ f ∈ l, (plainF f).1 = 0
 | [], _, _, f, hf => nomatch hf
 | a :: r, i, h, f, hf => by
  rw [seqGo] at h
  by_cases h0 : (plainF a).1 = 0
  ·rw [if_neg (by simpa using h0)] at h
   rcases List.mem_cons.1 hf with rfl | hf
   ·exact h0
   ·exact seqGo_all h f hf
  ·rw [if_pos h0] at h; exact absurd h h0
theorem sequent_all {l r : List Fm} (h : (sequentF l r).1 = 0) : l.length + r.length ≤ 60 ∧ (∀ f ∈ l, (plainF f).1 = 0) ∧ ∀ f ∈ r, (plainF f).1 = 0 := by
 unfold sequentF at h
 split at h
 ·cases h
 ·have := seqGo_all h
  exact ⟨by omega, fun f hf => this f (by simp [hf]), fun f hf => this f (by simp [hf])⟩
end Go.Proofs.Ytkadceiolddmhaa
namespace Go.Proofs.Ytkadceiolddmhaa
open Go Go.Pv
def PermP : List Prem → List Prem → Prop
 | [], [] => True
 | p :: ps, q :: qs => p.1.Perm q.1 ∧ p.2.Perm q.2 ∧ PermP ps qs
 | _, _ => False
structure Turn (σ : Fm → Fm) : Prop where
 k2 : ∀ f, Pl f → f.kind ≠ 1 → (σ f).kind = f.kind ∧ (σ f).kids = f.kids.map σ
 none : ∀ f, noneF f = true → noneF (σ f) = true
theorem Turn.id : Turn id := ⟨fun f _ _ => ⟨rfl, by simp⟩, fun f h => h⟩
section
variable {σ : Fm → Fm} {e : List Fm} {f : Fm} {l r : List Fm}
end
theorem PermP.len : ∀ {a b : List Prem}, PermP a b → a.length = b.length
 | [], [], _ => rfl
 | _ :: _, _ :: _, h => by simp [PermP.len h.2.2]
 | [], _ :: _, h => h.elim
 | _ :: _, [], h => h.elim
mutual
def stepsP : Pf → List Pf
 | .mk a f l r ks => .mk a f l r ks :: stepsPs ks
def stepsPs : List Pf → List Pf
 | [] => []
 | p :: r => stepsP p ++ stepsPs r
end
theorem stepsPs_eq (l : List Pf) : stepsPs l = l.flatMap stepsP := by
 induction l with
 | nil => rfl
 | cons p r ih => rw [stepsPs, ih]; rfl
theorem stepsP_eq (p : Pf) : stepsP p = p :: p.kids.flatMap stepsP := by
 cases p with | mk a f l r ks => rw [stepsP, stepsPs_eq]; rfl
def okT (q : Pf) : Prop := (sequentF q.l q.r).1 = 0 ∧ (q.rule ≠ ⟨#[119, 101, 97, 107]⟩ → (plainF q.f).1 = 0)
end Go.Proofs.Ytkadceiolddmhaa
