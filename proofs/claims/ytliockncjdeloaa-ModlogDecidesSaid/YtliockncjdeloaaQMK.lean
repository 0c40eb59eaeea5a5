/-
  modlog.Decide.
-/
import Derived.Test.YtliockncjdeloaaQMJ
namespace Go.Proofs.Ytliockncjdeloaa
open Go Go.Pv
set_option linter.unusedVariables false
set_option linter.unusedSimpArgs false
set_option maxRecDepth 100000
set_option maxHeartbeats 4000000

def mdl0 : Mdl := ⟨0, [], []⟩
def decT (b : Bool) (m : Mdl) (e : Int × Int) : PV := .tuple [.bool b, .agg (mdl m), .agg [.int .i64 e.1, .int .i64 e.2]]
def x26 : XC := .seq (.reg [⟨some 4,.alloc 33,none⟩]) (.seq (.reg [⟨some 5,.move (.tmp 0),none⟩,⟨some 6,.move (.tmp 1),none⟩,⟨some 7,.build 33 #[(0,.tmp 5),(1,.tmp 6)],none⟩,⟨none,.store 33 (.tmp 4) (.tmp 7),none⟩]) (.ret))
@[simp] theorem x26_s {C : WC} {e : AE} {s : Store} {K : KS} : type_of% (@X_at C e s K _ _ x26.eq_1) := X_at x26.eq_1
def an26 : Ann := ⟨[], [], []⟩
def cx26 (P : Program) (m : Nat) : WC := ⟨P, m, an26⟩
@[simp] theorem cx26_a {P : Program} {m : Nat} : (cx26 P m).P = P ∧ (cx26 P m).m = m := ⟨rfl, rfl⟩
instance {P : Program} {m f : Nat} [h : EnT P f] : EnT (cx26 P m).P f := h
theorem chk26 : ∀ c, Try.f26.body = some c → chkC Try.f26.ntmps an26 c = true := by intro c h; obtain rfl := Option.some.inj h; decide +kernel
theorem op26 {args : List PV} {v : PV} (h : X (cx26 Try.prog 0) x26 (argsA 0 args) [] (.fin [.cell 4 33] fun v1 s1 => deref s1 6 v1 = v)) (hl : args.length ≤ Try.f26.ntmps := by rw [Try.ntmps26]; simp) : CallOK Try.prog 26 args [] v [] :=
  callX (m := 0) (cx26 Try.prog 0) x26 rfl rfl (by kernel_rfl) Try.func26 rfl rfl hl mixed (chk26 _ rfl) (by rw [Try.results26]; exact h)

theorem fault_modlog (a b : Int) : CallOK Try.prog 26 [.int .i64 a, .int .i64 b] [] (.agg [.int .i64 a, .int .i64 b]) [] := by
  refine op26 ?_
  ((try simp (implicitDefEqProofs := false) (disch := first | assumption | (try simp only [lens]); omega -splitDisjunctions)); all_goals try (repeat' ((first | ((with_reducible first | refine And.intro ?_ ?_ | refine Exists.intro ?_ ?_); first | omega | (simp <;> omega)) | (with_reducible refine spl (And.intro ?_ ?_) <;> intro _)) <;> (try simp (implicitDefEqProofs := false) (disch := first | assumption | (try simp only [lens]); omega -splitDisjunctions)))))
def x10 : XC := .seq (.reg [⟨some 3,.box 24 (.tmp 1),none⟩,⟨some 4,.assign (.const (.bool false)),none⟩,⟨some 5,.alloc 31,none⟩,⟨some 6,.alloc 33,none⟩]) (.seq (.seq (.reg [⟨some 10,.load 24 (.tmp 3),none⟩,⟨some 11,.call ⟨.value (.func 25),#[.tmp 10],#[24]⟩,none⟩,⟨some 7,.alloc 33,none⟩,⟨none,.store 33 (.tmp 7) (.tmp 11),none⟩]) (.seq (.reg [⟨some 12,.fieldAddr 33 (.tmp 7) 0,none⟩,⟨some 13,.load 3 (.tmp 12),none⟩,⟨some 14,.binOp .neq 3 (.tmp 13) (.const (.int .i64 0)) 3,none⟩]) (.cond (.tmp 14) (.seq (.drawn 3 [⟨some 15,.load 31 (.tmp 5),none⟩,⟨some 16,.load 33 (.tmp 7),none⟩,⟨some 4,.assign (.const (.bool false)),none⟩,⟨none,.store 31 (.tmp 5) (.tmp 15),none⟩,⟨none,.store 33 (.tmp 6) (.tmp 16),none⟩]) (.ret)) (.skip)))) (.seq (.seq (.reg [⟨some 17,.move (.tmp 0),none⟩,⟨some 18,.binOp .lss 3 (.tmp 17) (.const (.int .i64 1)) 3,none⟩,⟨some 19,.move (.tmp 18),none⟩,⟨some 20,.move (.tmp 0),some (some 19,false)⟩,⟨some 21,.binOp .gtr 3 (.tmp 20) (.const (.int .i64 8)) 3,some (some 19,false)⟩,⟨some 22,.pick (.tmp 19) (.const (.bool true)) (.tmp 21),none⟩]) (.cond (.tmp 22) (.seq (.drawn 5 [⟨some 23,.load 31 (.tmp 5),none⟩,⟨some 24,.call ⟨.value (.func 26),#[.const (.int .i64 4),.const (.int .i64 0)],#[3,3]⟩,none⟩,⟨some 4,.assign (.const (.bool false)),none⟩,⟨none,.store 31 (.tmp 5) (.tmp 23),none⟩,⟨none,.store 33 (.tmp 6) (.tmp 24),none⟩]) (.ret)) (.skip))) (.seq (.seq (.reg [⟨some 25,.load 24 (.tmp 3),none⟩,⟨some 26,.buildSlice 22 1 #[(0,.tmp 25)],none⟩,⟨some 27,.call ⟨.value (.func 27),#[.tmp 26],#[22]⟩,none⟩,⟨some 28,.call ⟨.builtin .len,#[.tmp 27],#[22]⟩,none⟩,⟨some 29,.binOp .gtr 3 (.tmp 28) (.const (.int .i64 10)) 3,none⟩]) (.cond (.tmp 29) (.seq (.drawn 7 [⟨some 30,.load 31 (.tmp 5),none⟩,⟨some 31,.call ⟨.value (.func 26),#[.const (.int .i64 2),.const (.int .i64 0)],#[3,3]⟩,none⟩,⟨some 4,.assign (.const (.bool false)),none⟩,⟨none,.store 31 (.tmp 5) (.tmp 30),none⟩,⟨none,.store 33 (.tmp 6) (.tmp 31),none⟩]) (.ret)) (.skip))) (.seq (.reg [⟨some 32,.move (.tmp 0),none⟩,⟨some 33,.load 24 (.tmp 3),none⟩,⟨some 34,.call ⟨.value (.func 28),#[.tmp 32,.tmp 33],#[3,24]⟩,none⟩,⟨some 8,.assign (.tmp 34),none⟩]) (.seq (.reg [⟨some 35,.move (.tmp 8),none⟩,⟨some 36,.nilCheck (.tmp 35),none⟩,⟨some 37,.fieldAddr 62 (.tmp 36) 3,none⟩,⟨some 38,.load 59 (.tmp 37),none⟩,⟨some 39,.call ⟨.value (.func 29),#[.tmp 38,.func 30],#[59,64]⟩,none⟩,⟨some 9,.assign (.tmp 39),none⟩]) (.seq (.seq (.reg [⟨some 40,.move (.tmp 9),none⟩,⟨some 41,.binOp .lss 3 (.tmp 40) (.const (.int .i64 0)) 3,none⟩]) (.cond (.tmp 41) (.seq (.drawn 11 [⟨some 42,.load 31 (.tmp 5),none⟩,⟨some 43,.load 33 (.tmp 6),none⟩,⟨some 4,.assign (.const (.bool true)),none⟩,⟨none,.store 31 (.tmp 5) (.tmp 42),none⟩,⟨none,.store 33 (.tmp 6) (.tmp 43),none⟩]) (.ret)) (.skip))) (.seq (.drawn 12 [⟨some 44,.move (.tmp 8),none⟩,⟨some 45,.move (.tmp 8),none⟩,⟨some 46,.nilCheck (.tmp 45),none⟩,⟨some 47,.fieldAddr 62 (.tmp 46) 3,none⟩,⟨some 48,.load 59 (.tmp 47),none⟩,⟨some 49,.move (.tmp 9),none⟩,⟨some 50,.indexAddr 59 (.tmp 48) (.tmp 49),none⟩,⟨some 51,.load 3 (.tmp 50),none⟩,⟨some 52,.call ⟨.value (.func 32),#[.tmp 44,.tmp 51],#[56,3]⟩,none⟩,⟨some 53,.load 33 (.tmp 6),none⟩,⟨some 4,.assign (.const (.bool false)),none⟩,⟨none,.store 31 (.tmp 5) (.tmp 52),none⟩,⟨none,.store 33 (.tmp 6) (.tmp 53),none⟩]) (.ret))))))))
@[simp] theorem x10_s {C : WC} {e : AE} {s : Store} {K : KS} : type_of% (@X_at C e s K _ _ x10.eq_1) := X_at x10.eq_1
def an10 : Ann := ⟨[(3, .mix3 3 1), (5, .mix 3), (7, .mix 3), (11, .mix3 3 1), (12, .mix3 11 9)], [], []⟩
def cx10 (P : Program) (m : Nat) : WC := ⟨P, m, an10⟩
@[simp] theorem cx10_a {P : Program} {m : Nat} : (cx10 P m).P = P ∧ (cx10 P m).m = m ∧ (cx10 P m).A.clsOf 3 = .mix3 3 1 ∧ (cx10 P m).A.clsOf 5 = .mix 3 ∧ (cx10 P m).A.clsOf 7 = .mix 3 ∧ (cx10 P m).A.clsOf 11 = .mix3 3 1 ∧ (cx10 P m).A.clsOf 12 = .mix3 11 9 ∧ (cx10 P m).A.frzOf 3 = [] ∧ (cx10 P m).A.frzOf 5 = [] ∧ (cx10 P m).A.frzOf 7 = [] ∧ (cx10 P m).A.frzOf 11 = [] ∧ (cx10 P m).A.frzOf 12 = [] := ⟨rfl, rfl, rfl, rfl, rfl, rfl, rfl, rfl, rfl, rfl, rfl, rfl⟩
instance {P : Program} {m f : Nat} [h : EnT P f] : EnT (cx10 P m).P f := h
theorem chk10 : ∀ c, Try.f10.body = some c → chkC Try.f10.ntmps an10 c = true := by intro c h; obtain rfl := Option.some.inj h; decide +kernel
theorem os10 {args : List PV} {v : PV} (h : X (cx10 Try.prog 0) x10 (argsA 0 args) [] (.fin [.tmp 4, .cell 5 31, .cell 6 33] fun v1 s1 => softV (deref s1 6 v1) = v)) (hl : args.length ≤ Try.f10.ntmps := by rw [Try.ntmps10]; simp) : CallOK Try.prog 10 args [] v [] :=
  callXF (m := 0) (cx10 Try.prog 0) x10 rfl rfl (by kernel_rfl) Try.func10 rfl rfl hl mixed (chk10 _ rfl) (by rw [Try.results10]; exact h)

theorem Decide_fault (lg : Int) (f : Fm) (h : (formulaCheck f).1 ≠ 0) : CallOK Try.prog 10 [.int .i64 lg, .agg (frm f)] [] (decT false mdl0 (formulaCheck f)) [] := by
  have hc := check_formula f []
  generalize formulaCheck f = e at h hc ⊢
  obtain ⟨a, b⟩ := e
  simp only at h hc
  refine os10 ?_
  ((try simp (implicitDefEqProofs := false) (disch := first | assumption | (try simp only [lens]); omega -splitDisjunctions) [h]); all_goals try (repeat' ((first | ((with_reducible first | refine And.intro ?_ ?_ | refine Exists.intro ?_ ?_); first | omega | (simp <;> omega)) | (with_reducible refine spl (And.intro ?_ ?_) <;> intro _) | (refine CL.clo (hc) ?_) | (refine CM.clo (hc) ?_) | (refine CD.clo (hc) ?_)) <;> (try simp (implicitDefEqProofs := false) (disch := first | assumption | (try simp only [lens]); omega -splitDisjunctions) [h]))))
  rfl
theorem Decide_kind (lg : Int) (f : Fm) (h : (formulaCheck f).1 = 0) (hl : lg < 1 ∨ 8 < lg) : CallOK Try.prog 10 [.int .i64 lg, .agg (frm f)] [] (decT false mdl0 (4, 0)) [] := by
  have hc := check_formula f []
  rw [formulaCheck_zero h] at hc
  refine os10 ?_
  ((try simp (implicitDefEqProofs := false) (disch := first | assumption | (try simp only [lens]); omega -splitDisjunctions)); all_goals try (repeat' ((first | ((with_reducible first | refine And.intro ?_ ?_ | refine Exists.intro ?_ ?_); first | omega | (simp <;> omega)) | (with_reducible refine spl (And.intro ?_ ?_) <;> intro _) | (refine CL.clo (hc) ?_) | (refine CM.clo (hc) ?_) | (refine CD.clo (hc) ?_) | (refine CL.clo (fault_modlog 4 0) ?_) | (refine CM.clo (fault_modlog 4 0) ?_) | (refine CD.clo (fault_modlog 4 0) ?_)) <;> (try simp (implicitDefEqProofs := false) (disch := first | assumption | (try simp only [lens]); omega -splitDisjunctions)))))
  all_goals first | rfl | (exfalso; omega)
theorem Decide_many (lg : Nat) (f : Fm) (h : (formulaCheck f).1 = 0) (hl : 1 ≤ lg) (hl2 : lg ≤ 8) (hm : 10 < (partsS [] (pre f)).length) : CallOK Try.prog 10 [.int .i64 (lg : Int), .agg (frm f)] [] (decT false mdl0 (2, 0)) [] := by
  have hc := check_formula f []
  rw [formulaCheck_zero h] at hc
  have hpre := (formulaCheck_iff f).1 h
  have hf := okF_of_pre f hpre.1
  have hq := PartsOf_formula f hf hpre.2
  generalize partsS [] (pre f) = l at hm hq
  refine os10 ?_
  ((try simp (implicitDefEqProofs := false) (disch := first | assumption | (try simp only [lens]); omega -splitDisjunctions)); all_goals try (repeat' ((first | ((with_reducible first | refine And.intro ?_ ?_ | refine Exists.intro ?_ ?_); first | omega | (simp <;> omega)) | (with_reducible refine spl (And.intro ?_ ?_) <;> intro _) | (refine CL.clo (hc) ?_) | (refine CM.clo (hc) ?_) | (refine CD.clo (hc) ?_) | (refine CL.clo (fault_modlog 2 0) ?_) | (refine CM.clo (fault_modlog 2 0) ?_) | (refine CD.clo (fault_modlog 2 0) ?_)) <;> (try simp (implicitDefEqProofs := false) (disch := first | assumption | (try simp only [lens]); omega -splitDisjunctions)))))
  refine CL.giv [4] ?_
  ((try simp (implicitDefEqProofs := false) (disch := first | assumption | (try simp only [lens]); omega -splitDisjunctions)); all_goals try (repeat' ((first | ((with_reducible first | refine And.intro ?_ ?_ | refine Exists.intro ?_ ?_); first | omega | (simp <;> omega)) | (with_reducible refine spl (And.intro ?_ ?_) <;> intro _) | (refine CL.clo (hq) ?_) | (refine CM.clo (hq) ?_) | (refine CD.clo (hq) ?_) | (refine CL.clo (fault_modlog 2 0) ?_) | (refine CM.clo (fault_modlog 2 0) ?_) | (refine CD.clo (fault_modlog 2 0) ?_)) <;> (try simp (implicitDefEqProofs := false) (disch := first | assumption | (try simp only [lens]); omega -splitDisjunctions)))))
  all_goals rfl
noncomputable def lastW (lg : Nat) (f : Fm) : List Nat := elim lg (partsS [] (pre f)) (2 ^ (partsS [] (pre f)).length) ((List.range (2 ^ (partsS [] (pre f)).length)).filter (sceneOf lg (partsS [] (pre f)) []).locl)
noncomputable def lastC (lg : Nat) (f : Fm) : Sc := sceneOf lg (partsS [] (pre f)) (lastW lg f)
def noZero (x : Nat) : Bool := !x.testBit 0
theorem lastW_small (lg : Nat) (f : Fm) (hm : (partsS [] (pre f)).length ≤ 10) : (∀ x ∈ lastW lg f, x < 1024) ∧ (lastW lg f).length ≤ 1024 := by
  have h2 : 2 ^ (partsS [] (pre f)).length ≤ 1024 := Nat.le_trans (Nat.pow_le_pow_right (by decide) hm) (by decide)
  unfold lastW
  refine elim_inv (fun ws => (∀ x ∈ ws, x < 1024) ∧ ws.length ≤ 1024) (fun ws h => ⟨fun x hx => h.1 x (List.mem_filter.1 hx).1, Nat.le_trans (List.length_filter_le _ _) h.2⟩) _ _ ⟨fun x hx => ?_, ?_⟩
  · have := List.mem_range.1 (List.mem_filter.1 hx).1; omega
  · have := List.length_filter_le (sceneOf lg (partsS [] (pre f)) []).locl (List.range (2 ^ (partsS [] (pre f)).length))
    rw [List.length_range] at this; omega
theorem Decide_ok (lg : Nat) (f : Fm) (h : (formulaCheck f).1 = 0) (hl : 1 ≤ lg) (hl2 : lg ≤ 8) (hm : (partsS [] (pre f)).length ≤ 10) (hkid : ∀ g ∈ partsS [] (pre f), ∀ k ∈ g.kids, k ∈ partsS [] (pre f))
    (Inv : List Nat → Prop) (hI0 : Inv ((List.range (2 ^ (partsS [] (pre f)).length)).filter (sceneOf lg (partsS [] (pre f)) []).locl)) (hIs : ∀ ws, Inv ws → Inv (ws.filter (sceneOf lg (partsS [] (pre f)) ws).whole)) (hIn : ∀ ws, Inv ws → 0 < ws.length) :
    CallOK Try.prog 10 [.int .i64 (lg : Int), .agg (frm f)] [] (match (lastW lg f).findIdx? noZero with | none => decT true mdl0 (0, 0) | some i => decT false ((lastC lg f).mdl ((lastC lg f).reach ((lastW lg f).length + 1) 0 [((lastW lg f)[i]?).getD 0])) (0, 0)) [] := by
  have hc := check_formula f []
  rw [formulaCheck_zero h] at hc
  have hpre := (formulaCheck_iff f).1 h
  have hf := okF_of_pre f hpre.1
  have hq := PartsOf_formula f hf hpre.2
  have hns := newScene_modlog lg f hf hpre.2 hm hkid Inv hI0 hIs hIn
  have hw := lastW_small lg f hm
  have hOK : (lastC lg f).OK := scene_ok lg _ (lastW lg f) (fun x hx => (pre_sub f hf x (partsS_mem hx)).1) hm hkid (fun y hy => by have := hw.1 y hy; omega)
  have hmod := fun x0 h0 => model_modlog (lastC lg f) hOK x0 h0 hw.2
  have hix := IndexFunc_int (lastW lg f) 30 [] [] noZero (fun x hx => Decide1_modlog x (by have := hw.1 x hx; omega))
  change CallOK _ _ _ _ (.iptr (scn (lastC lg f))) _ at hns
  have hscn := scene_scn lg (partsS [] (pre f)) (lastW lg f)
  change scn (lastC lg f) = _ at hscn
  rw [hscn] at hns
  simp only [hscn] at hmod
  change ∀ x0, x0 ∈ lastW lg f → CallOK _ _ _ _ (.agg (mdl ((lastC lg f).mdl ((lastC lg f).reach ((lastW lg f).length + 1) 0 [x0])))) _ at hmod
  have hw2 := hw.2
  generalize lastC lg f = c at hmod ⊢
  generalize lastW lg f = ws at hmod hns hix hw2 ⊢
  generalize partsS [] (pre f) = l at hm hq hns hmod
  generalize bitsN (kindB l 8) l.length = bb at hns hmod
  generalize bitsN (kindB l 9) l.length = dd at hns hmod
  refine os10 ?_
  ((try simp (implicitDefEqProofs := false) (disch := first | assumption | (try simp only [lens]); omega -splitDisjunctions)); all_goals try (repeat' ((first | ((with_reducible first | refine And.intro ?_ ?_ | refine Exists.intro ?_ ?_); first | omega | (simp <;> omega)) | (with_reducible refine spl (And.intro ?_ ?_) <;> intro _) | (refine CL.clo (hc) ?_) | (refine CM.clo (hc) ?_) | (refine CD.clo (hc) ?_)) <;> (try simp (implicitDefEqProofs := false) (disch := first | assumption | (try simp only [lens]); omega -splitDisjunctions)))))
  refine CL.giv [4] ?_
  cases hfi : ws.findIdx? noZero with
  | none =>
    rw [indexP, hfi] at hix
    simp only at hix
    ((try simp (implicitDefEqProofs := false) (disch := first | assumption | (try simp only [lens]); omega -splitDisjunctions)); all_goals try (repeat' ((first | ((with_reducible first | refine And.intro ?_ ?_ | refine Exists.intro ?_ ?_); first | omega | (simp <;> omega)) | (with_reducible refine spl (And.intro ?_ ?_) <;> intro _) | (refine CL.clo (hq) ?_) | (refine CM.clo (hq) ?_) | (refine CD.clo (hq) ?_) | (refine CL.clo (hns) ?_) | (refine CM.clo (hns) ?_) | (refine CD.clo (hns) ?_) | (refine CL.clo (hix) ?_) | (refine CM.clo (hix) ?_) | (refine CD.clo (hix) ?_)) <;> (try simp (implicitDefEqProofs := false) (disch := first | assumption | (try simp only [lens]); omega -splitDisjunctions)))))
    all_goals rfl
  | some i =>
    rw [indexP, hfi] at hix
    simp only at hix
    obtain ⟨hi, _, _⟩ := List.findIdx?_eq_some_iff_getElem.1 hfi
    have hgi : (ws[i]?).getD 0 = ws[i] := by simp [hi]
    have hmod := hmod ws[i] (List.getElem_mem hi)
    ((try simp (implicitDefEqProofs := false) (disch := first | assumption | (try simp only [lens]); omega -splitDisjunctions)); all_goals try (repeat' ((first | ((with_reducible first | refine And.intro ?_ ?_ | refine Exists.intro ?_ ?_); first | omega | (simp <;> omega)) | (with_reducible refine spl (And.intro ?_ ?_) <;> intro _) | (refine CL.clo (hq) ?_) | (refine CM.clo (hq) ?_) | (refine CD.clo (hq) ?_) | (refine CL.clo (hns) ?_) | (refine CM.clo (hns) ?_) | (refine CD.clo (hns) ?_) | (refine CL.clo (hix) ?_) | (refine CM.clo (hix) ?_) | (refine CD.clo (hix) ?_) | (refine CL.clo (hmod) ?_) | (refine CM.clo (hmod) ?_) | (refine CD.clo (hmod) ?_)) <;> (try simp (implicitDefEqProofs := false) (disch := first | assumption | (try simp only [lens]); omega -splitDisjunctions)))))
    all_goals rfl
end Go.Proofs.Ytliockncjdeloaa
