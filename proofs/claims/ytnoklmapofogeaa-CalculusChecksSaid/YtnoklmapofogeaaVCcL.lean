/-
  law03: middle, calculusBegun.
-/
import Derived.Test.YtnoklmapofogeaaVCcH
import Derived.Test.YtnoklmapofogeaaVCcJ
import Derived.Test.YtnoklmapofogeaaVQRF
namespace Go.Proofs.Ytnoklmapofogeaa
open Go Go.Pv
set_option linter.unusedVariables false
set_option linter.unusedSimpArgs false
set_option maxRecDepth 100000
set_option maxHeartbeats 4000000
def pF : Fm := .mk 1 ⟨#[112]⟩ []
def npF : Fm := .mk 4 ⟨#[]⟩ [pF]
def lemF : Fm := .mk 6 ⟨#[]⟩ [pF, npF]
def axP : Pf := .mk ⟨#[97, 120]⟩ pF [pF] [pF] []
def notP : Pf := .mk ⟨#[110, 111, 116, 45, 114]⟩ npF [] [pF, npF] [axP]
def middleP : Pf := .mk ⟨#[111, 114, 45, 114]⟩ lemF [] [lemF] [notP]
def x72 : XC := .seq (.reg [⟨some 2,.alloc 24,none⟩]) (.seq (.reg [⟨some 3,.move (.tmp 0),none⟩,⟨some 4,.build 24 #[(0,.const (.int .i64 1)),(1,.tmp 3)],none⟩,⟨none,.store 24 (.tmp 2) (.tmp 4),none⟩]) (.ret))
@[simp] theorem x72_s {C : WC} {e : AE} {s : Store} {K : KS} : type_of% (@X_at C e s K _ _ x72.eq_1) := X_at x72.eq_1
def an72 : Ann := ⟨[], [], []⟩
def cx72 (P : Program) (m : Nat) : WC := ⟨P, m, an72⟩
@[simp] theorem cx72_a {P : Program} {m : Nat} : (cx72 P m).P = P ∧ (cx72 P m).m = m := ⟨rfl, rfl⟩
instance {P : Program} {m f : Nat} [h : EnT P f] : EnT (cx72 P m).P f := h
theorem fi72 : FI Try.prog 72 cx72 x72 [.cell 2 24] Try.f72 := fiOf (fun _ _ => rfl) (by decide +kernel) Try.func72 (by kernel_rfl) (by kernel_rfl) mixed

theorem named_p : CallOK Try.prog 72 [.str ⟨#[112]⟩] [] (.agg (frm pF)) [] := by
  refine fi72.os ?_
  ((refine Sg.h ?_); try repeat' ((first | (with_reducible first | refine Sg.mk ?_ | refine brA ?_ | refine brE fun _ => ?_ | (refine spl (And.intro ?_ ?_) <;> intro _))) <;> ((try simp (implicitDefEqProofs := false)); (try simp (implicitDefEqProofs := false) (disch := first | assumption | (try simp only [lens]); omega -splitDisjunctions)))))
  rw [frm_eq]; rfl
def x94 : XC := .seq (.reg [⟨some 3,.box 24 (.tmp 1),none⟩,⟨some 4,.alloc 24,none⟩]) (.seq (.reg [⟨some 5,.move (.tmp 0),none⟩,⟨some 6,.load 24 (.tmp 3),none⟩,⟨some 7,.buildSlice 22 1 #[(0,.tmp 6)],none⟩,⟨some 8,.build 24 #[(0,.tmp 5),(2,.tmp 7)],none⟩,⟨none,.store 24 (.tmp 4) (.tmp 8),none⟩]) (.ret))
@[simp] theorem x94_s {C : WC} {e : AE} {s : Store} {K : KS} : type_of% (@X_at C e s K _ _ x94.eq_1) := X_at x94.eq_1
def an94 : Ann := ⟨[], [], []⟩
def cx94 (P : Program) (m : Nat) : WC := ⟨P, m, an94⟩
@[simp] theorem cx94_a {P : Program} {m : Nat} : (cx94 P m).P = P ∧ (cx94 P m).m = m := ⟨rfl, rfl⟩
instance {P : Program} {m f : Nat} [h : EnT P f] : EnT (cx94 P m).P f := h
theorem fi94 : FI Try.prog 94 cx94 x94 [.cell 4 24] Try.f94 := fiOf (fun _ _ => rfl) (by decide +kernel) Try.func94 (by kernel_rfl) (by kernel_rfl) mixed

theorem of_np : CallOK Try.prog 94 [.int .i64 4, .agg (frm pF)] [] (.agg (frm npF)) [] := by
  refine fi94.op ?_
  unfold npF
  rw [frm_eq (Fm.mk _ _ _)]
  ((refine Sg.h ?_); try repeat' ((first | (with_reducible first | refine Sg.mk ?_ | refine brA ?_ | refine brE fun _ => ?_ | (refine spl (And.intro ?_ ?_) <;> intro _))) <;> ((try simp (implicitDefEqProofs := false)); (try simp (implicitDefEqProofs := false) (disch := first | assumption | (try simp only [lens]); omega -splitDisjunctions)))))
def x73 : XC := .seq (.reg [⟨some 4,.box 24 (.tmp 1),none⟩,⟨some 5,.box 24 (.tmp 2),none⟩,⟨some 6,.alloc 24,none⟩]) (.seq (.reg [⟨some 7,.move (.tmp 0),none⟩,⟨some 8,.load 24 (.tmp 4),none⟩,⟨some 9,.load 24 (.tmp 5),none⟩,⟨some 10,.buildSlice 22 2 #[(0,.tmp 8),(1,.tmp 9)],none⟩,⟨some 11,.build 24 #[(0,.tmp 7),(2,.tmp 10)],none⟩,⟨none,.store 24 (.tmp 6) (.tmp 11),none⟩]) (.ret))
@[simp] theorem x73_s {C : WC} {e : AE} {s : Store} {K : KS} : type_of% (@X_at C e s K _ _ x73.eq_1) := X_at x73.eq_1
def an73 : Ann := ⟨[], [], []⟩
def cx73 (P : Program) (m : Nat) : WC := ⟨P, m, an73⟩
@[simp] theorem cx73_a {P : Program} {m : Nat} : (cx73 P m).P = P ∧ (cx73 P m).m = m := ⟨rfl, rfl⟩
instance {P : Program} {m f : Nat} [h : EnT P f] : EnT (cx73 P m).P f := h
theorem fi73 : FI Try.prog 73 cx73 x73 [.cell 6 24] Try.f73 := fiOf (fun _ _ => rfl) (by decide +kernel) Try.func73 (by kernel_rfl) (by kernel_rfl) mixed

theorem both_lem : CallOK Try.prog 73 [.int .i64 6, .agg (frm pF), .agg (frm npF)] [] (.agg (frm lemF)) [] := by
  refine fi73.op ?_
  unfold lemF
  rw [frm_eq (Fm.mk _ _ _)]
  ((refine Sg.h ?_); try repeat' ((first | (with_reducible first | refine Sg.mk ?_ | refine brA ?_ | refine brE fun _ => ?_ | (refine spl (And.intro ?_ ?_) <;> intro _))) <;> ((try simp (implicitDefEqProofs := false)); (try simp (implicitDefEqProofs := false) (disch := first | assumption | (try simp only [lens]); omega -splitDisjunctions)))))
def x60 : XC := .seq (.reg [⟨some 0,.alloc 29,none⟩]) (.seq (.reg [⟨some 4,.call ⟨.value (.func 72),#[.const (.string ⟨#[112]⟩)],#[9]⟩,none⟩,⟨some 1,.alloc 24,none⟩,⟨none,.store 24 (.tmp 1) (.tmp 4),none⟩]) (.seq (.reg [⟨some 5,.load 24 (.tmp 1),none⟩,⟨some 6,.call ⟨.value (.func 94),#[.const (.int .i64 4),.tmp 5],#[3,24]⟩,none⟩,⟨some 2,.alloc 24,none⟩,⟨none,.store 24 (.tmp 2) (.tmp 6),none⟩]) (.seq (.reg [⟨some 7,.load 24 (.tmp 1),none⟩,⟨some 8,.load 24 (.tmp 2),none⟩,⟨some 9,.call ⟨.value (.func 73),#[.const (.int .i64 6),.tmp 7,.tmp 8],#[3,24,24]⟩,none⟩,⟨some 3,.alloc 24,none⟩,⟨none,.store 24 (.tmp 3) (.tmp 9),none⟩]) (.seq (.reg [⟨some 10,.load 24 (.tmp 3),none⟩,⟨some 11,.load 24 (.tmp 3),none⟩,⟨some 12,.buildSlice 22 1 #[(0,.tmp 11)],none⟩,⟨some 13,.build 26 #[(1,.tmp 12)],none⟩,⟨some 14,.load 24 (.tmp 2),none⟩,⟨some 15,.load 24 (.tmp 1),none⟩,⟨some 16,.load 24 (.tmp 2),none⟩,⟨some 17,.buildSlice 22 2 #[(0,.tmp 15),(1,.tmp 16)],none⟩,⟨some 18,.build 26 #[(1,.tmp 17)],none⟩,⟨some 19,.load 24 (.tmp 1),none⟩,⟨some 20,.load 24 (.tmp 1),none⟩,⟨some 21,.buildSlice 22 1 #[(0,.tmp 20)],none⟩,⟨some 22,.load 24 (.tmp 1),none⟩,⟨some 23,.buildSlice 22 1 #[(0,.tmp 22)],none⟩,⟨some 24,.build 26 #[(0,.tmp 21),(1,.tmp 23)],none⟩,⟨some 25,.build 29 #[(0,.const (.string ⟨#[97,120]⟩)),(1,.tmp 19),(2,.tmp 24)],none⟩,⟨some 26,.buildSlice 27 1 #[(0,.tmp 25)],none⟩,⟨some 27,.build 29 #[(0,.const (.string ⟨#[110,111,116,45,114]⟩)),(1,.tmp 14),(2,.tmp 18),(3,.tmp 26)],none⟩,⟨some 28,.buildSlice 27 1 #[(0,.tmp 27)],none⟩,⟨some 29,.build 29 #[(0,.const (.string ⟨#[111,114,45,114]⟩)),(1,.tmp 10),(2,.tmp 13),(3,.tmp 28)],none⟩,⟨none,.store 29 (.tmp 0) (.tmp 29),none⟩]) (.ret)))))
@[simp] theorem x60_s {C : WC} {e : AE} {s : Store} {K : KS} : type_of% (@X_at C e s K _ _ x60.eq_1) := X_at x60.eq_1
def an60 : Ann := ⟨[], [], []⟩
def cx60 (P : Program) (m : Nat) : WC := ⟨P, m, an60⟩
@[simp] theorem cx60_a {P : Program} {m : Nat} : (cx60 P m).P = P ∧ (cx60 P m).m = m := ⟨rfl, rfl⟩
instance {P : Program} {m f : Nat} [h : EnT P f] : EnT (cx60 P m).P f := h
theorem fi60 : FI Try.prog 60 cx60 x60 [.cell 0 29] Try.f60 := fiOf (fun _ _ => rfl) (by decide +kernel) Try.func60 (by kernel_rfl) (by kernel_rfl) mixed

theorem e_pF : frm pF = [.int .i64 1, .str ⟨#[112]⟩, .list []] := by rw [frm_eq]; rfl
theorem e_npF : frm npF = [.int .i64 4, .str ⟨#[]⟩, .list [[.int .i64 1, .str ⟨#[112]⟩, .list []]]] := by rw [frm_eq, ← e_pF]; rfl
theorem e_lemF : frm lemF = [.int .i64 6, .str ⟨#[]⟩, .list [[.int .i64 1, .str ⟨#[112]⟩, .list []], [.int .i64 4, .str ⟨#[]⟩, .list [[.int .i64 1, .str ⟨#[112]⟩, .list []]]]]] := by rw [frm_eq, ← e_npF, ← e_pF]; rfl
theorem middle_law : CallOK Try.prog 60 [] [] (.agg (prf middleP)) [] := by
  have h1 := named_p
  have h2 := of_np
  have h3 := both_lem
  rw [e_pF] at h1 h2 h3
  rw [e_npF] at h2 h3
  rw [e_lemF] at h3
  refine callOK_softR (v' := ?v) (fi60.op ?_) ?_
  rotate_left 1
  · ((refine Sg.h ?_); try repeat' ((first | (with_reducible first | refine Sg.mk ?_ | refine brA ?_ | refine brE fun _ => ?_ | (refine spl (And.intro ?_ ?_) <;> intro _)) | (refine clo h1 ?_) | (refine clo h2 ?_) | (refine clo h3 ?_)) <;> ((try simp (implicitDefEqProofs := false)); (try simp (implicitDefEqProofs := false) (disch := first | assumption | (try simp only [lens]); omega -splitDisjunctions)))))
    exact rfl
  · have e : prf middleP = [.str ⟨#[111, 114, 45, 114]⟩, .int .i64 6, .str ⟨#[]⟩, .list [frm pF, frm npF], .list [], .list [frm lemF], .list [[.str ⟨#[110, 111, 116, 45, 114]⟩, .int .i64 4, .str ⟨#[]⟩, .list [frm pF], .list [], .list [frm pF, frm npF], .list [[.str ⟨#[97, 120]⟩, .int .i64 1, .str ⟨#[112]⟩, .list [], .list [frm pF], .list [frm pF], .list []]]]]] := by
      rw [prf_eq]
      have e1 : prf axP = [.str ⟨#[97, 120]⟩, .int .i64 1, .str ⟨#[112]⟩, .list [], .list [frm pF], .list [frm pF], .list []] := by rw [prf_eq]; rfl
      have e2 : prf notP = [.str ⟨#[110, 111, 116, 45, 114]⟩, .int .i64 4, .str ⟨#[]⟩, .list [frm pF], .list [], .list [frm pF, frm npF], .list [prf axP]] := by rw [prf_eq]; rfl
      rw [← e1, ← e2]; rfl
    rw [e, e_pF, e_npF, e_lemF]
    repeat' (first | exact SoftL.nil | exact SoftR.nil | exact Soft.nil | exact Soft.refl | apply Soft.agg | apply Soft.list | apply SoftL.cons | apply SoftR.cons)
/-! what Check says of it -/
theorem mid_pl : (plainF pF).1 = 0 ∧ (plainF npF).1 = 0 ∧ (plainF lemF).1 = 0 := ⟨by kernel_rfl, by kernel_rfl, by kernel_rfl⟩
theorem step_ok {u : Bool} {p : Pf} {e : Ent} {qs : List Prem} (hw : p.rule ≠ ⟨#[119, 101, 97, 107]⟩) (h : ruleT u p.rule = some e) (hp : (plainF p.f).1 = 0) (hb : e.R p.f p.l p.r = (qs, true)) (hl : p.kids.length = qs.length) (hm : meetB qs p.kids = true) : stepF u p = 0 := by
  unfold stepF
  rw [if_neg hw, h]
  dsimp only
  rw [hb, if_neg (by simpa using hp), if_neg (by simp), if_neg (by simpa using hl), if_pos hm]
theorem hasF_of {l : List Fm} {f : Fm} (h : f ∈ l) : hasF l f = true := hasF_iff.2 h
theorem same_self (l : List Fm) : sameF l l = true := by
  unfold sameF
  have : ∀ l : List Fm, withinF l l = true := by
    intro l
    induction l with
    | nil => rfl
    | cons a r ih => rw [withinF, hasF_of List.mem_cons_self, List.erase_cons_head, ih]; rfl
  rw [this]; simp
theorem mid_ax : stepF false axP = 0 := by
  refine step_ok (e := ⟨145, [], axR⟩) (qs := []) (by decide) (by kernel_rfl) mid_pl.1 ?_ rfl rfl
  show axR pF [pF] [pF] = _
  unfold axR
  rw [hasF_of (by simp)]; rfl
theorem mid_not : stepF false notP = 0 := by
  refine step_ok (e := ⟨154, [], notRR⟩) (qs := [([pF], [pF])]) (by decide) (by kernel_rfl) mid_pl.2.1 ?_ rfl ?_
  · show notRR npF [] [pF, npF] = _
    unfold notRR kindF
    have hne : (pF == npF) = false := by
      rw [Bool.eq_false_iff]; intro h
      have h2 : Fm.kind pF = Fm.kind npF := by rw [eq_of_beq h]
      exact absurd h2 (by decide)
    rw [hasF_of (by simp), List.erase_cons_tail (by rw [hne]; simp), List.erase_cons_head]; rfl
  · show (sameF [pF] [pF] && sameF [pF] [pF] && meetB [] []) = true
    rw [same_self]; rfl
theorem mid_or : stepF false middleP = 0 := by
  refine step_ok (e := ⟨156, [], orRR⟩) (qs := [([], [pF, npF])]) (by decide) (by kernel_rfl) mid_pl.2.2 ?_ rfl ?_
  · show orRR lemF [] [lemF] = _
    unfold orRR kindF
    rw [hasF_of (by simp), List.erase_cons_head]; rfl
  · show (sameF [] [] && sameF [pF, npF] [pF, npF] && meetB [] []) = true
    rw [same_self, same_self]; rfl
theorem mid_false : checkF false middleP = (0, 0) := by
  have e1 : ∀ n, lookF false axP 2 n = if 20000 ≤ 2 ∨ 400 < n then (3, (2, 0)) else (3, (0, 0)) := by
    intro n
    rw [lookF_eq, mid_ax]
    rfl
  unfold checkF
  rw [lookF_eq, mid_or]
  show (looksF false [notP] 1 2).2 = _
  rw [looksF, looksF, lookF_eq, mid_not]
  show (if (looksF false [axP] 2 3).2.1 ≠ 0 then looksF false [axP] 2 3 else ((looksF false [axP] 2 3).1, (0, 0))).2 = _
  rw [looksF, looksF, e1]
  rfl
theorem mid_true : checkF true middleP = (4, 0) := by kernel_rfl
def x14 : XC := .seq (.reg [⟨some 0,.assign (.const (.bool false)),none⟩]) (.seq (.reg [⟨some 3,.call ⟨.value (.func 60),#[],#[]⟩,none⟩,⟨some 4,.call ⟨.value (.func 16),#[.tmp 3,.const (.bool false)],#[29,4]⟩,none⟩,⟨some 1,.alloc 33,none⟩,⟨none,.store 33 (.tmp 1) (.tmp 4),none⟩]) (.seq (.reg [⟨some 5,.call ⟨.value (.func 60),#[],#[]⟩,none⟩,⟨some 6,.call ⟨.value (.func 16),#[.tmp 5,.const (.bool true)],#[29,4]⟩,none⟩,⟨some 2,.alloc 33,none⟩,⟨none,.store 33 (.tmp 2) (.tmp 6),none⟩]) (.seq (.drawn 3 [⟨some 7,.fieldAddr 33 (.tmp 1) 0,none⟩,⟨some 8,.load 3 (.tmp 7),none⟩,⟨some 9,.binOp .eql 3 (.tmp 8) (.const (.int .i64 0)) 3,none⟩,⟨some 10,.move (.tmp 9),none⟩,⟨some 11,.load 33 (.tmp 2),some (some 10,true)⟩,⟨some 12,.call ⟨.value (.func 38),#[.const (.int .i64 4),.const (.int .i64 0)],#[3,3]⟩,some (some 10,true)⟩,⟨some 13,.binOp .eql 33 (.tmp 11) (.tmp 12) 33,some (some 10,true)⟩,⟨some 14,.pick (.tmp 10) (.tmp 13) (.const (.bool false)),none⟩,⟨some 0,.assign (.tmp 14),none⟩]) (.ret))))
@[simp] theorem x14_s {C : WC} {e : AE} {s : Store} {K : KS} : type_of% (@X_at C e s K _ _ x14.eq_1) := X_at x14.eq_1
def an14 : Ann := ⟨[(3, .mix 6)], [], []⟩
def cx14 (P : Program) (m : Nat) : WC := ⟨P, m, an14⟩
@[simp] theorem cx14_a {P : Program} {m : Nat} : (cx14 P m).P = P ∧ (cx14 P m).m = m ∧ (cx14 P m).A.clsOf 3 = .mix 6 ∧ (cx14 P m).A.frzOf 3 = [] := ⟨rfl, rfl, rfl, rfl⟩
instance {P : Program} {m f : Nat} [h : EnT P f] : EnT (cx14 P m).P f := h
theorem fi14 : FI Try.prog 14 cx14 x14 [.tmp 0] Try.f14 := fiOf (fun _ _ => rfl) (by decide +kernel) Try.func14 (by kernel_rfl) (by kernel_rfl) mixed

theorem calculusBegun_law : CallOK Try.prog 14 [] [] (.bool true) [] := by
  have h1 := middle_law
  have hsz : Szs middleP := .mk ⟨by decide, by decide⟩ (fun k hk => by
    rw [List.mem_singleton.1 hk]
    exact .mk ⟨by decide, by decide⟩ (fun k hk => by
      rw [List.mem_singleton.1 hk]
      exact .mk ⟨by decide, by decide⟩ (fun k hk => nomatch hk) (by decide)) (by decide)) (by decide)
  have h2 := Check_calculus false middleP hsz
  have h3 := Check_calculus true middleP hsz
  rw [mid_false] at h2
  rw [mid_true] at h3
  have h4 := F_ref 4 0
  generalize middleP = M at *
  refine fi14.op ?_
  ((refine Sg.h ?_); try repeat' ((first | (with_reducible first | refine Sg.mk ?_ | refine brA ?_ | refine brE fun _ => ?_ | (refine spl (And.intro ?_ ?_) <;> intro _)) | (refine clo h1 ?_) | (refine clo h2 ?_) | (refine clo h3 ?_) | (refine clo h4 ?_)) <;> ((try simp (implicitDefEqProofs := false)); (try simp (implicitDefEqProofs := false) (disch := first | assumption | (try simp only [lens]); omega -splitDisjunctions)))))
end Go.Proofs.Ytnoklmapofogeaa
