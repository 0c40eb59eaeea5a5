/-
  calculus: cuts.
-/
import Derived.Test.YtnoklmapofogeaaVCcP
import Derived.Test.YtnoklmapofogeaaVQTn
namespace Go.Proofs.Ytnoklmapofogeaa
open Go Go.Pv
set_option linter.unusedVariables false
set_option linter.unusedSimpArgs false
set_option maxRecDepth 100000
set_option maxHeartbeats 4000000
mutual
def cutsP : Pf → Nat
  | .mk a _ _ _ ks => (if a = ⟨#[99, 117, 116]⟩ then 1 else 0) + cutsL ks
def cutsL : List Pf → Nat
  | [] => 0
  | p :: r => cutsP p + cutsL r
end
theorem cutsL_take {l : List Pf} {i : Nat} (h : i < l.length) : cutsL (l.take (i + 1)) = cutsL (l.take i) + cutsP l[i] := by
  have key : ∀ a b : List Pf, cutsL (a ++ b) = cutsL a + cutsL b := by
    intro a b; induction a with
    | nil => simp [cutsL]
    | cons x r ih => rw [List.cons_append, cutsL, cutsL, ih]; omega
  rw [take_snoc h, key, cutsL, cutsL]; omega
theorem cutsP_eq (p : Pf) : cutsP p = (if p.rule = ⟨#[99, 117, 116]⟩ then 1 else 0) + cutsL p.kids := by
  cases p with | mk a f l r ks => rw [cutsP]; rfl
theorem cutsL_mem : ∀ {l : List Pf} {p : Pf}, p ∈ l → cutsP p ≤ cutsL l
  | _ :: r, p, .head _ => by rw [cutsL]; omega
  | _ :: r, p, .tail _ h => by rw [cutsL]; have := cutsL_mem h; omega
def x66_T1 : XC := .seq (.reg [⟨some 23,.move (.tmp 3),none⟩,⟨some 2,.assign (.tmp 23),none⟩]) (.ret)
def x66_L0 : XC := .seq (.reg [⟨some 15,.binOp .lss 3 (.tmp 14) (.tmp 13) 3,none⟩]) (.seq (.cond (.tmp 15) (.skip) (.exit 0)) (.seq (.block 1 (.seq (.reg [⟨some 16,.indexAddr 27 (.tmp 12) (.tmp 14),none⟩,⟨some 17,.load 29 (.tmp 16),none⟩,⟨some 5,.alloc 29,none⟩,⟨none,.store 29 (.tmp 5) (.tmp 17),none⟩]) (.reg [⟨some 18,.move (.tmp 3),none⟩,⟨some 19,.load 29 (.tmp 5),none⟩,⟨some 20,.call ⟨.value (.func 66),#[.tmp 19],#[29]⟩,none⟩,⟨some 21,.binOp .add 3 (.tmp 18) (.tmp 20) 3,none⟩,⟨some 3,.assign (.tmp 21),none⟩]))) (.reg [⟨some 22,.binOp .add 3 (.tmp 14) (.const (.int .i64 1)) 3,none⟩,⟨some 14,.move (.tmp 22),none⟩])))
def x66 : XC := .seq (.reg [⟨some 1,.box 29 (.tmp 0),none⟩,⟨some 2,.assign (.const (.int .i64 0)),none⟩]) (.seq (.reg [⟨some 3,.assign (.const (.int .i64 0)),none⟩]) (.seq (.seq (.reg [⟨some 6,.fieldAddr 29 (.tmp 1) 0,none⟩,⟨some 7,.load 9 (.tmp 6),none⟩,⟨some 8,.binOp .eql 9 (.tmp 7) (.const (.string ⟨#[99,117,116]⟩)) 9,none⟩]) (.cond (.tmp 8) (.reg [⟨some 9,.move (.tmp 3),none⟩,⟨some 10,.binOp .add 3 (.tmp 9) (.const (.int .i64 1)) 3,none⟩,⟨some 3,.assign (.tmp 10),none⟩]) (.skip))) (.seq (.seq (.reg [⟨some 11,.fieldAddr 29 (.tmp 1) 3,none⟩,⟨some 12,.load 27 (.tmp 11),none⟩,⟨some 13,.call ⟨.builtin .len,#[.tmp 12],#[27]⟩,none⟩,⟨some 14,.move (.const (.int .i64 0)),none⟩]) (.bloop 0 x66_L0)) (x66_T1))))
@[simp] theorem x66_s {C : WC} {e : AE} {s : Store} {K : KS} : type_of% (@X_at C e s K _ _ x66_T1.eq_1) ∧ type_of% (@X_at C e s K _ _ x66_L0.eq_1) ∧ type_of% (@X_at C e s K _ _ x66.eq_1) := ⟨X_at x66_T1.eq_1, X_at x66_L0.eq_1, X_at x66.eq_1⟩
def an66 : Ann := ⟨[], [(0, [], [3, 12, 13, 14], [3])], []⟩
def cx66 (P : Program) (m : Nat) : WC := ⟨P, m, an66⟩
@[simp] theorem cx66_a {P : Program} {m : Nat} : (cx66 P m).P = P ∧ (cx66 P m).m = m ∧ (cx66 P m).A.loopOf 0 = ([], [3, 12, 13, 14], [3]) := ⟨rfl, rfl, rfl⟩
instance {P : Program} {m f : Nat} [h : EnT P f] : EnT (cx66 P m).P f := h
theorem fi66 : FI Try.prog 66 cx66 x66 [.tmp 2] Try.f66 := fiOf (fun _ _ => rfl) (by decide +kernel) Try.func66 (by kernel_rfl) (by kernel_rfl) mixed

theorem cuts_calculus (p : Pf) : cutsP p ≤ 1000000000 → CallOK Try.prog 66 [.agg (prf p)] [] (.int .i64 (cutsP p : Int)) [] := by
  induction p using Pf.ind with
  | h p ih =>
    intro hb
    have he := cutsP_eq p
    have key : p.kids.length ≤ 9223372036854775807 → ∀ c : Nat, c ≤ 1 → c + cutsL p.kids = cutsP p → W (cx66 Try.prog 0) 0 x66_L0 (KS.seq x66_T1 (KS.fin [ResultVar.tmp 2] fun v1 s1 => deref s1 6 v1 = PV.int IntKind.i64 ↑(cutsP p))) [(3, PV.int IntKind.i64 (c : Int)), (12, PV.list (List.map prf p.kids)), (13, PV.int IntKind.i64 ↑p.kids.length), (14, PV.int IntKind.i64 0)] [] := by
      intro hkl c hc1 hc
      refine W_of fun Q hQ => ?_
      have main : ∀ n i, i + n = p.kids.length → Q [(3, .int .i64 ((c + cutsL (p.kids.take i) : Nat) : Int)), (12, .list (p.kids.map prf)), (13, .int .i64 (p.kids.length : Int)), (14, .int .i64 (i : Int))] [] := by
        intro n
        induction n with
        | zero =>
          intro i hi
          obtain rfl : i = p.kids.length := by omega
          rw [List.take_length, hc]
          apply hQ
          ((refine Sg.h ?_); try repeat' ((first | (with_reducible first | refine Sg.mk ?_ | refine brA ?_ | refine brE fun _ => ?_ | (refine spl (And.intro ?_ ?_) <;> intro _))) <;> ((try simp (implicitDefEqProofs := false)); (try simp (implicitDefEqProofs := false) (disch := first | assumption | (try simp only [lens]); omega -splitDisjunctions)))))
        | succ n ihn =>
          intro i hi
          have hil : i < p.kids.length := by omega
          have ihn := ihn (i + 1) (by omega)
          have hm := cutsL_mem (List.getElem_mem hil)
          have h1 := ih _ (List.getElem_mem hil) (by omega)
          have h2 := cutsL_take hil
          have h3 : cutsL (p.kids.take (i + 1)) ≤ cutsL p.kids := by
            have : ∀ (l : List Pf) (i : Nat), cutsL (l.take i) ≤ cutsL l := by
              intro l; induction l with
              | nil => intro i; simp
              | cons a r ih => intro i; cases i with
                | zero => simp [cutsL]
                | succ i => rw [List.take_succ_cons, cutsL, cutsL]; have := ih i; omega
            exact this _ _
          rw [h2] at ihn h3
          rw [← Nat.add_assoc] at ihn
          generalize cutsL (p.kids.take i) = T at *
          apply hQ
          clear hQ
          ((refine Sg.h ?_); try repeat' ((first | (with_reducible first | refine Sg.mk ?_ | refine brA ?_ | refine brE fun _ => ?_ | (refine spl (And.intro ?_ ?_) <;> intro _)) | (refine clo h1 ?_)) <;> ((try simp (implicitDefEqProofs := false) [hil]); (try simp (implicitDefEqProofs := false) (disch := first | assumption | (try simp only [lens]); omega -splitDisjunctions) [hil]))))
          all_goals first | exact ihn | (refine at2 ihn ?_ ?_ <;> simp; done) | (exfalso; first | omega | (simp_all; done) | (simp_all; omega))
      have m0 := main _ 0 (Nat.zero_add _)
      all_goals first | exact m0 | (refine at2 m0 ?_ ?_ <;> simp; done) | (exfalso; first | omega | (simp_all; done) | (simp_all; omega))
    refine fi66.op ?_
    by_cases hr : p.rule = ⟨#[99, 117, 116]⟩
    · rw [if_pos hr] at he
      have key := fun h => key h 1 (by omega) (by omega)
      generalize cutsP p = C at *
      ((refine Sg.h ?_); try repeat' ((first | (with_reducible first | refine Sg.mk ?_ | refine brA ?_ | refine brE fun _ => ?_ | (refine spl (And.intro ?_ ?_) <;> intro _))) <;> ((try simp (implicitDefEqProofs := false) [hr]); (try simp (implicitDefEqProofs := false) (disch := first | assumption | (try simp only [lens]); omega -splitDisjunctions) [hr]))))
      all_goals exact key (by assumption)
    · rw [if_neg hr] at he
      have key := fun h => key h 0 (by omega) (by omega)
      generalize cutsP p = C at *
      ((refine Sg.h ?_); try repeat' ((first | (with_reducible first | refine Sg.mk ?_ | refine brA ?_ | refine brE fun _ => ?_ | (refine spl (And.intro ?_ ?_) <;> intro _))) <;> ((try simp (implicitDefEqProofs := false) [hr]); (try simp (implicitDefEqProofs := false) (disch := first | assumption | (try simp only [lens]); omega -splitDisjunctions) [hr]))))
      all_goals exact key (by assumption)
end Go.Proofs.Ytnoklmapofogeaa
