/-
  law03: ownList; sequentref: Steps.
-/
import Derived.Test.YtnoklmapofogeaaVCcT
namespace Go.Proofs.Ytnoklmapofogeaa
open Go Go.Pv
set_option linter.unusedVariables false
set_option linter.unusedSimpArgs false
set_option maxRecDepth 100000
set_option maxHeartbeats 4000000

def x57_T1 : XC := .seq (.reg [⟨some 19,.move (.tmp 3),none⟩,⟨some 2,.assign (.tmp 19),none⟩]) (.ret)
def x57_L0 : XC := .seq (.seq (.reg [⟨some 5,.move (.tmp 4),none⟩,⟨some 6,.move (.tmp 0),none⟩,⟨some 7,.call ⟨.builtin .len,#[.tmp 6],#[22]⟩,none⟩,⟨some 8,.binOp .lss 3 (.tmp 5) (.tmp 7) 3,none⟩]) (.cond (.tmp 8) (.skip) (.exit 0))) (.seq (.block 1 (.reg [⟨some 11,.move (.tmp 3),none⟩,⟨some 12,.move (.tmp 0),none⟩,⟨some 13,.move (.tmp 4),none⟩,⟨some 14,.indexAddr 22 (.tmp 12) (.tmp 13),none⟩,⟨some 15,.load 24 (.tmp 14),none⟩,⟨some 16,.call ⟨.value (.func 35),#[.tmp 15],#[24]⟩,none⟩,⟨some 17,.buildSlice 22 1 #[(0,.tmp 16)],none⟩,⟨some 18,.call ⟨.builtin .append,#[.tmp 11,.tmp 17],#[22,22]⟩,none⟩,⟨some 3,.assign (.tmp 18),none⟩])) (.reg [⟨some 9,.move (.tmp 4),none⟩,⟨some 10,.binOp .add 3 (.tmp 9) (.const (.int .i64 1)) 3,none⟩,⟨some 4,.assign (.tmp 10),none⟩]))
def x57 : XC := .seq (.reg [⟨some 2,.assign (.const (.slice none 0 0)),none⟩]) (.seq (.reg [⟨some 3,.assign (.const (.slice none 0 0)),none⟩]) (.seq (.seq (.reg [⟨some 4,.assign (.const (.int .i64 0)),none⟩]) (.bloop 0 x57_L0)) (x57_T1)))
@[simp] theorem x57_s {C : WC} {e : AE} {s : Store} {K : KS} : type_of% (@X_at C e s K _ _ x57_T1.eq_1) ∧ type_of% (@X_at C e s K _ _ x57_L0.eq_1) ∧ type_of% (@X_at C e s K _ _ x57.eq_1) := ⟨X_at x57_T1.eq_1, X_at x57_L0.eq_1, X_at x57.eq_1⟩
def an57 : Ann := ⟨[], [(0, [(3, none, 3)], [0, 3, 4], [3])], []⟩
def cx57 (P : Program) (m : Nat) : WC := ⟨P, m, an57⟩
@[simp] theorem cx57_a {P : Program} {m : Nat} : (cx57 P m).P = P ∧ (cx57 P m).m = m ∧ (cx57 P m).A.loopOf 0 = ([(3, none, 3)], [0, 3, 4], [3]) := ⟨rfl, rfl, rfl⟩
instance {P : Program} {m f : Nat} [h : EnT P f] : EnT (cx57 P m).P f := h
theorem fi57 : FI Try.prog 57 cx57 x57 [.tmp 2] Try.f57 := fiOf (fun _ _ => rfl) (by decide +kernel) Try.func57 (by kernel_rfl) (by kernel_rfl) mixed

theorem ownList_own (l : List Fm) (hl : l.length ≤ 1000000) (hv : ∀ f ∈ l, vastB f 0 = false) : CallOK Try.prog 57 [.list (l.map frm)] [] (.sl 0 0 l.length) [.rows 3 (l.map frm)] := by
  refine fi57.og ?_
  ((refine Sg.h ?_); try repeat' ((first | (with_reducible first | refine Sg.mk ?_ | refine brA ?_ | refine brE fun _ => ?_ | (refine spl (And.intro ?_ ?_) <;> intro _))) <;> ((try simp (implicitDefEqProofs := false)); (try simp (implicitDefEqProofs := false) (disch := first | assumption | (try simp only [lens]); omega -splitDisjunctions)))))
  refine W_of fun Q hQ => ?_
  have main : ∀ r i, i + r = l.length → Q [(0, .list (l.map frm)), (3, .sl 0 0 (l.take i).length), (4, .int .i64 (i : Int))] [.rows 3 ((l.take i).map frm)] := by
    intro r
    induction r with
    | zero =>
      intro i hi
      obtain rfl : i = l.length := by omega
      rw [List.take_length]
      apply hQ
      clear hQ
      ((refine Sg.h ?_); try repeat' ((first | (with_reducible first | refine Sg.mk ?_ | refine brA ?_ | refine brE fun _ => ?_ | (refine spl (And.intro ?_ ?_) <;> intro _))) <;> ((try simp (implicitDefEqProofs := false)); (try simp (implicitDefEqProofs := false) (disch := first | assumption | (try simp only [lens]); omega -splitDisjunctions)))))
    | succ r ih =>
      intro i hi
      have hil : i < l.length := by omega
      have ih := ih (i + 1) (by omega)
      have ho := own_law l[i] 0 (hv _ (List.getElem_mem hil))
      have hlen : (l.take i).length = i := by rw [List.length_take]; omega
      rw [take_snoc hil] at ih
      generalize l.take i = T at *
      apply hQ
      clear hQ
      ((refine Sg.h ?_); try repeat' ((first | (with_reducible first | refine Sg.mk ?_ | refine brA ?_ | refine brE fun _ => ?_ | (refine spl (And.intro ?_ ?_) <;> intro _)) | (refine clo ho ?_)) <;> ((try simp (implicitDefEqProofs := false) [hil]); (try simp (implicitDefEqProofs := false) (disch := first | assumption | (try simp only [lens]); omega -splitDisjunctions) [hil]))))
      all_goals first | exact ih | (refine at2 ih ?_ ?_ <;> simp; done) | (exfalso; first | omega | (simp_all; done) | (simp_all; omega))
  refine at2 (main _ 0 (Nat.zero_add _)) ?_ ?_ <;> simp
theorem ownList_law (l : List Fm) (hl : l.length ≤ 1000000) (hv : ∀ f ∈ l, vastB f 0 = false) : CallOK Try.prog 57 [.list (l.map frm)] [] (.list (l.map frm)) [] := callOK_done (ownList_own l hl hv) (by simp)
theorem vastP_all {p : Pf} {d : Int} (h : vastP p d = false) : p.kids.length ≤ 1200 ∧ p.l.length ≤ 300 ∧ p.r.length ≤ 300 ∧ vastB p.f 0 = false ∧ (∀ f ∈ p.l, vastB f 0 = false) ∧ (∀ f ∈ p.r, vastB f 0 = false) ∧ ∀ k ∈ p.kids, vastP k (d + 1) = false := by
  rw [vastP_eq] at h
  simp only [Bool.or_eq_false_iff, decide_eq_false_iff_not] at h
  obtain ⟨h1, h2, h3, h4, h5, h6, h7, h8⟩ := h
  have key : ∀ l : List Fm, vastsB l 0 = false → ∀ f ∈ l, vastB f 0 = false := by
    intro l
    induction l with
    | nil => intro _ f hf; cases hf
    | cons a r ih =>
      intro h f hf
      rw [vastsB, Bool.or_eq_false_iff] at h
      rcases List.mem_cons.1 hf with rfl | hf
      · exact h.1
      · exact ih h.2 f hf
  exact ⟨by omega, by omega, by omega, h5, key _ h6, key _ h7, vastPs_mem h8⟩
/-! steps -/
theorem preDs_snoc (l : List Pf) (q : Pf) (d : Int) : preDs (l ++ [q]) d = preDs l d ++ preD q d := by
  rw [preDs_eq, preDs_eq, List.flatMap_append]; simp
def depRow (x : Pf × Int) : List PV := [.int .i64 x.2]
def stpRow (x : Pf × Int) : List PV := prf x.1
@[simp] theorem stpRow_eq (x : Pf × Int) : stpRow x = prf x.1 := rfl
@[simp] theorem depRow_eq (x : Pf × Int) : depRow x = [.int .i64 x.2] := rfl
instance : FlatRow stpRow := ⟨fun x => prf_flat x.1⟩
instance : FlatRow depRow := ⟨fun x => rfl⟩
def x23_T1 : XC := .seq (.reg [⟨some 55,.move (.tmp 8),none⟩,⟨some 56,.move (.tmp 9),none⟩,⟨some 6,.assign (.tmp 55),none⟩,⟨some 7,.assign (.tmp 56),none⟩]) (.ret)
def x23_L0 : XC := .seq (.seq (.reg [⟨some 17,.move (.tmp 10),none⟩,⟨some 18,.fieldAddr 29 (.tmp 3) 3,none⟩,⟨some 19,.load 27 (.tmp 18),none⟩,⟨some 20,.call ⟨.builtin .len,#[.tmp 19],#[27]⟩,none⟩,⟨some 21,.binOp .lss 3 (.tmp 17) (.tmp 20) 3,none⟩,⟨some 22,.move (.tmp 21),none⟩,⟨some 23,.move (.tmp 8),some (some 22,true)⟩,⟨some 24,.call ⟨.builtin .len,#[.tmp 23],#[27]⟩,some (some 22,true)⟩,⟨some 25,.move (.tmp 2),some (some 22,true)⟩,⟨some 26,.binOp .leq 3 (.tmp 24) (.tmp 25) 3,some (some 22,true)⟩,⟨some 27,.pick (.tmp 22) (.tmp 26) (.const (.bool false)),none⟩,⟨some 28,.move (.tmp 27),none⟩,⟨some 29,.move (.tmp 1),some (some 28,true)⟩,⟨some 30,.binOp .lss 3 (.tmp 29) (.const (.int .i64 402)) 3,some (some 28,true)⟩,⟨some 31,.pick (.tmp 28) (.tmp 30) (.const (.bool false)),none⟩]) (.cond (.tmp 31) (.skip) (.exit 0))) (.seq (.block 1 (.seq (.reg [⟨some 35,.fieldAddr 29 (.tmp 3) 3,none⟩,⟨some 36,.load 27 (.tmp 35),none⟩,⟨some 37,.move (.tmp 10),none⟩,⟨some 38,.indexAddr 27 (.tmp 36) (.tmp 37),none⟩,⟨some 39,.load 29 (.tmp 38),none⟩,⟨some 40,.move (.tmp 1),none⟩,⟨some 41,.binOp .add 3 (.tmp 40) (.const (.int .i64 1)) 3,none⟩,⟨some 42,.move (.tmp 2),none⟩,⟨some 43,.move (.tmp 8),none⟩,⟨some 44,.call ⟨.builtin .len,#[.tmp 43],#[27]⟩,none⟩,⟨some 45,.binOp .sub 3 (.tmp 42) (.tmp 44) 3,none⟩,⟨some 46,.call ⟨.value (.func 23),#[.tmp 39,.tmp 41,.tmp 45],#[29,3,3]⟩,none⟩,⟨some 34,.move (.tmp 46),none⟩,⟨some 47,.extract (.tmp 34) 0,none⟩,⟨some 48,.extract (.tmp 34) 1,none⟩,⟨some 11,.assign (.tmp 47),none⟩,⟨some 12,.assign (.tmp 48),none⟩]) (.seq (.reg [⟨some 49,.move (.tmp 8),none⟩,⟨some 50,.move (.tmp 11),none⟩,⟨some 51,.call ⟨.builtin .append,#[.tmp 49,.tmp 50],#[27,27]⟩,none⟩,⟨some 8,.assign (.tmp 51),none⟩]) (.reg [⟨some 52,.move (.tmp 9),none⟩,⟨some 53,.move (.tmp 12),none⟩,⟨some 54,.call ⟨.builtin .append,#[.tmp 52,.tmp 53],#[43,43]⟩,none⟩,⟨some 9,.assign (.tmp 54),none⟩])))) (.reg [⟨some 32,.move (.tmp 10),none⟩,⟨some 33,.binOp .add 3 (.tmp 32) (.const (.int .i64 1)) 3,none⟩,⟨some 10,.assign (.tmp 33),none⟩]))
def x23 : XC := .seq (.reg [⟨some 3,.box 29 (.tmp 0),none⟩,⟨some 6,.assign (.const (.slice none 0 0)),none⟩,⟨some 7,.assign (.const (.slice none 0 0)),none⟩]) (.seq (.reg [⟨some 13,.load 29 (.tmp 3),none⟩,⟨some 14,.buildSlice 27 1 #[(0,.tmp 13)],none⟩,⟨some 8,.assign (.tmp 14),none⟩]) (.seq (.reg [⟨some 15,.move (.tmp 1),none⟩,⟨some 16,.buildSlice 43 1 #[(0,.tmp 15)],none⟩,⟨some 9,.assign (.tmp 16),none⟩]) (.seq (.seq (.reg [⟨some 10,.assign (.const (.int .i64 0)),none⟩]) (.bloop 0 x23_L0)) (x23_T1))))
@[simp] theorem x23_s {C : WC} {e : AE} {s : Store} {K : KS} : type_of% (@X_at C e s K _ _ x23_T1.eq_1) ∧ type_of% (@X_at C e s K _ _ x23_L0.eq_1) ∧ type_of% (@X_at C e s K _ _ x23.eq_1) := ⟨X_at x23_T1.eq_1, X_at x23_L0.eq_1, X_at x23.eq_1⟩
def an23 : Ann := ⟨[], [(0, [(8, none, 7), (9, none, 1)], [1, 2, 3, 8, 9, 10], [8, 9])], []⟩
def cx23 (P : Program) (m : Nat) : WC := ⟨P, m, an23⟩
@[simp] theorem cx23_a {P : Program} {m : Nat} : (cx23 P m).P = P ∧ (cx23 P m).m = m ∧ (cx23 P m).A.loopOf 0 = ([(8, none, 7), (9, none, 1)], [1, 2, 3, 8, 9, 10], [8, 9]) := ⟨rfl, rfl, rfl⟩
instance {P : Program} {m f : Nat} [h : EnT P f] : EnT (cx23 P m).P f := h
theorem fi23 : FI Try.prog 23 cx23 x23 [.tmp 6, .tmp 7] Try.f23 := fiOf (fun _ _ => rfl) (by decide +kernel) Try.func23 (by kernel_rfl) (by kernel_rfl) mixed

theorem Steps_ref (p : Pf) (hp : Szs p) : ∀ (d : Int) (m : Nat), 1 ≤ d → d ≤ 402 → m ≤ 20001 → CallOK Try.prog 23 [.agg (prf p), .int .i64 d, .int .i64 (m : Int)] [] (.tuple [.list (((preD p d).take (m + 1)).map stpRow), .list (((preD p d).take (m + 1)).map depRow)]) [] := by
  induction p using Pf.ind with
  | h p ih =>
    intro d m hd0 hd hm
    have hkl := hp.len
    refine fi23.op ?_
    rw [preD_eq, List.take_succ_cons]
    generalize hR : (p, d) :: (if d < 402 then preDs p.kids (d + 1) else []).take m = R
    ((refine Sg.h ?_); try repeat' ((first | (with_reducible first | refine Sg.mk ?_ | refine brA ?_ | refine brE fun _ => ?_ | (refine spl (And.intro ?_ ?_) <;> intro _))) <;> ((try simp (implicitDefEqProofs := false)); (try simp (implicitDefEqProofs := false) (disch := first | assumption | (try simp only [lens]); omega -splitDisjunctions)))))
    refine W_of fun Q hQ => ?_
    by_cases hd2 : d < 402
    · rw [if_pos hd2] at hR
      have main : ∀ r i (A : List (Pf × Int)), i + r = p.kids.length → A = preDs (p.kids.take i) (d + 1) → Q [(1, .int .i64 d), (2, .int .i64 (m : Int)), (3, .ptr 0 0 0), (8, .sl 1 0 ((p, d) :: A.take m).length), (9, .sl 2 0 ((p, d) :: A.take m).length), (10, .int .i64 (i : Int))] [.rows 7 [prf p], .rows 7 (((p, d) :: A.take m).map stpRow), .rows 1 (((p, d) :: A.take m).map depRow)] := by
        intro r
        induction r with
        | zero =>
          intro i A hi hA
          obtain rfl : i = p.kids.length := by omega
          rw [List.take_length] at hA
          rw [← hA] at hR
          rw [hR]
          apply hQ
          clear hQ
          ((refine Sg.h ?_); try repeat' ((first | (with_reducible first | refine Sg.mk ?_ | refine brA ?_ | refine brE fun _ => ?_ | (refine spl (And.intro ?_ ?_) <;> intro _))) <;> ((try simp (implicitDefEqProofs := false)); (try simp (implicitDefEqProofs := false) (disch := first | assumption | (try simp only [lens]); omega -splitDisjunctions)))))
        | succ r ihr =>
          intro i A hi hA
          have hil : i < p.kids.length := by omega
          have hl : ((p, d) :: A.take m).length = 1 + min m A.length := by rw [List.length_cons, List.length_take]; omega
          by_cases hm2 : A.length < m
          · have hc := ih p.kids[i] (List.getElem_mem hil) (hp.kid (List.getElem_mem hil)) (d + 1) (m - 1 - A.length) (by omega) (by omega) (by omega)
            have ihr := ihr (i + 1) (A ++ preD p.kids[i] (d + 1)) (by omega) (by rw [take_snoc hil, preDs_snoc, hA])
            rw [List.take_append] at ihr
            rw [show m - 1 - A.length + 1 = m - A.length from by omega] at hc
            have hle : (((p, d) :: A.take m).length : Int) ≤ (m : Int) := by omega
            have hsub : (m : Int) - (((p, d) :: A.take m).length : Int) = ((m - 1 - A.length : Nat) : Int) := by omega
            rw [← hsub] at hc
            rw [← List.cons_append] at ihr
            have hll : ((preD p.kids[i] (d + 1)).take (m - A.length)).length ≤ 20001 := by rw [List.length_take]; omega
            generalize (preD p.kids[i] (d + 1)).take (m - A.length) = B at *
            generalize (p, d) :: A.take m = L at *
            clear hR hA hl
            apply hQ
            clear hQ
            ((refine Sg.h ?_); try repeat' ((first | (with_reducible first | refine Sg.mk ?_ | refine brA ?_ | refine brE fun _ => ?_ | (refine spl (And.intro ?_ ?_) <;> intro _)) | (refine clo hc ?_)) <;> ((try simp (implicitDefEqProofs := false) [hil, hle, hd2]); (try simp (implicitDefEqProofs := false) (disch := first | assumption | (try simp only [lens]); omega -splitDisjunctions) [hil, hle, hd2]))))
            refine ⟨⟨by rintro _ x y _ rfl; simp, by omega⟩, ⟨by rintro _ x y _ rfl; simp, by omega⟩, ?_⟩
            all_goals first | exact ihr | (refine at2 ihr ?_ ?_ <;> simp; done) | (exfalso; first | omega | (simp_all; done) | (simp_all; omega))
          · have hle : ¬ (((p, d) :: A.take m).length : Int) ≤ (m : Int) := by omega
            have he : (p, d) :: A.take m = R := by
              rw [← hR]
              congr 1
              have : preDs p.kids (d + 1) = A ++ preDs (p.kids.drop i) (d + 1) := by
                rw [hA, preDs_eq, preDs_eq, preDs_eq, ← List.flatMap_append, List.take_append_drop]
              rw [this, List.take_append_of_le_length (by omega)]
            rw [he] at hle ⊢
            apply hQ
            clear hQ
            ((refine Sg.h ?_); try repeat' ((first | (with_reducible first | refine Sg.mk ?_ | refine brA ?_ | refine brE fun _ => ?_ | (refine spl (And.intro ?_ ?_) <;> intro _))) <;> ((try simp (implicitDefEqProofs := false) [hil, hle]); (try simp (implicitDefEqProofs := false) (disch := first | assumption | (try simp only [lens]); omega -splitDisjunctions) [hil, hle]))))
      have m0 := main _ 0 [] (Nat.zero_add _) rfl
      all_goals first | exact m0 | (refine at2 m0 ?_ ?_ <;> simp; done) | (exfalso; first | omega | (simp_all; done) | (simp_all; omega))
    · rw [if_neg hd2] at hR
      subst hR
      apply hQ
      clear hQ
      ((refine Sg.h ?_); try repeat' ((first | (with_reducible first | refine Sg.mk ?_ | refine brA ?_ | refine brE fun _ => ?_ | (refine spl (And.intro ?_ ?_) <;> intro _))) <;> ((try simp (implicitDefEqProofs := false) [hd2]); (try simp (implicitDefEqProofs := false) (disch := first | assumption | (try simp only [lens]); omega -splitDisjunctions) [hd2]))))
end Go.Proofs.Ytnoklmapofogeaa
