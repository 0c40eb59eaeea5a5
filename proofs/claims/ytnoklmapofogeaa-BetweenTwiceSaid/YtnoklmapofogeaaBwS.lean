/-
  law07: named, both, betweenBegun.
-/
import Derived.Test.YtnoklmapofogeaaBwR
namespace Go.Proofs.Ytnoklmapofogeaa
open Go Go.Pv
set_option linter.unusedVariables false
set_option linter.unusedSimpArgs false
set_option maxRecDepth 100000
set_option maxHeartbeats 4000000

/-- branches that join: what is left of the first is what is left of all -/
structure Hold (p : Prop) : Prop where
  h : p
theorem joinK {K g : Prop} (h : Hold K → g) (k : K) : g := h ⟨k⟩
def x72 : XC := .seq (.reg [⟨some 2,.alloc 24,none⟩]) (.seq (.reg [⟨some 3,.move (.tmp 0),none⟩,⟨some 4,.build 24 #[(0,.const (.int .i64 1)),(1,.tmp 3)],none⟩,⟨none,.store 24 (.tmp 2) (.tmp 4),none⟩]) (.ret))
@[simp] theorem x72_s {C : WC} {e : AE} {s : Store} {K : KS} : type_of% (@X_at C e s K _ _ x72.eq_1) := X_at x72.eq_1
def an72 : Ann := ⟨[], [], []⟩
def cx72 (P : Program) (m : Nat) : WC := ⟨P, m, an72⟩
@[simp] theorem cx72_a {P : Program} {m : Nat} : (cx72 P m).P = P ∧ (cx72 P m).m = m := ⟨rfl, rfl⟩
instance {P : Program} {m f : Nat} [h : EnT P f] : EnT (cx72 P m).P f := h
theorem chk72 : ∀ c, Try.f72.body = some c → chkC Try.f72.ntmps an72 c = true := by intro c h; obtain rfl := Option.some.inj h; decide +kernel
theorem os72 {args : List PV} {v : PV} (h : X (cx72 Try.prog 0) x72 (argsA 0 args) [] (.fin [.cell 2 24] fun v1 s1 => softV (deref s1 6 v1) = v)) (hl : args.length ≤ Try.f72.ntmps := by rw [Try.ntmps72]; simp) : CallOK Try.prog 72 args [] v [] :=
  callXF (m := 0) (cx72 Try.prog 0) x72 rfl rfl (by kernel_rfl) Try.func72 rfl rfl hl mixed (chk72 _ rfl) (by rw [Try.results72]; exact h)

theorem named_law (nm : ByteArray) : CallOK Try.prog 72 [.str nm] [] (.agg (frm (.mk 1 nm []))) [] := by
  refine os72 ?_
  (((try simp (implicitDefEqProofs := false)); (try simp (implicitDefEqProofs := false) (disch := first | assumption | (try simp only [lens]); omega -splitDisjunctions))); all_goals try (repeat' ((first | ((with_reducible first | refine And.intro ?_ ?_ | refine Exists.intro ?_ ?_); first | omega | (simp <;> omega)) | (with_reducible refine spl (And.intro ?_ ?_) <;> intro _)) <;> ((try simp (implicitDefEqProofs := false)); (try simp (implicitDefEqProofs := false) (disch := first | assumption | (try simp only [lens]); omega -splitDisjunctions))))))
  rw [frm_eq]; rfl
def x73 : XC := .seq (.reg [⟨some 4,.box 24 (.tmp 1),none⟩,⟨some 5,.box 24 (.tmp 2),none⟩,⟨some 6,.alloc 24,none⟩]) (.seq (.reg [⟨some 7,.move (.tmp 0),none⟩,⟨some 8,.load 24 (.tmp 4),none⟩,⟨some 9,.load 24 (.tmp 5),none⟩,⟨some 10,.buildSlice 22 2 #[(0,.tmp 8),(1,.tmp 9)],none⟩,⟨some 11,.build 24 #[(0,.tmp 7),(2,.tmp 10)],none⟩,⟨none,.store 24 (.tmp 6) (.tmp 11),none⟩]) (.ret))
@[simp] theorem x73_s {C : WC} {e : AE} {s : Store} {K : KS} : type_of% (@X_at C e s K _ _ x73.eq_1) := X_at x73.eq_1
def an73 : Ann := ⟨[], [], []⟩
def cx73 (P : Program) (m : Nat) : WC := ⟨P, m, an73⟩
@[simp] theorem cx73_a {P : Program} {m : Nat} : (cx73 P m).P = P ∧ (cx73 P m).m = m := ⟨rfl, rfl⟩
instance {P : Program} {m f : Nat} [h : EnT P f] : EnT (cx73 P m).P f := h
theorem chk73 : ∀ c, Try.f73.body = some c → chkC Try.f73.ntmps an73 c = true := by intro c h; obtain rfl := Option.some.inj h; decide +kernel
theorem op73 {args : List PV} {v : PV} (h : X (cx73 Try.prog 0) x73 (argsA 0 args) [] (.fin [.cell 6 24] fun v1 s1 => deref s1 6 v1 = v)) (hl : args.length ≤ Try.f73.ntmps := by rw [Try.ntmps73]; simp) : CallOK Try.prog 73 args [] v [] :=
  callX (m := 0) (cx73 Try.prog 0) x73 rfl rfl (by kernel_rfl) Try.func73 rfl rfl hl mixed (chk73 _ rfl) (by rw [Try.results73]; exact h)

theorem both_law (k : Int) (f g : Fm) : CallOK Try.prog 73 [.int .i64 k, .agg (frm f), .agg (frm g)] [] (.agg (frm (.mk k ⟨#[]⟩ [f, g]))) [] := by
  refine op73 ?_
  rw [frm_eq (Fm.mk _ _ _)]
  (((try simp (implicitDefEqProofs := false)); (try simp (implicitDefEqProofs := false) (disch := first | assumption | (try simp only [lens]); omega -splitDisjunctions))); all_goals try (repeat' ((first | ((with_reducible first | refine And.intro ?_ ?_ | refine Exists.intro ?_ ?_); first | omega | (simp <;> omega)) | (with_reducible refine spl (And.intro ?_ ?_) <;> intro _)) <;> ((try simp (implicitDefEqProofs := false)); (try simp (implicitDefEqProofs := false) (disch := first | assumption | (try simp only [lens]); omega -splitDisjunctions))))))
def bwP : ByteArray := ⟨#[112]⟩
def bwF : Fm := .mk 5 ⟨#[]⟩ [.mk 1 bwP [], .mk 1 ⟨#[113]⟩ []]
def bwG : Fm := .mk 6 ⟨#[]⟩ [.mk 1 bwP [], .mk 1 ⟨#[114]⟩ []]
theorem bw_names : namesS [bwF, bwG] = [bwP, ⟨#[113]⟩, ⟨#[114]⟩] := by unfold namesS; rw [comp_ins]; kernel_rfl
theorem bw_namesF : namesS [bwF] = [bwP, ⟨#[113]⟩] := by unfold namesS; rw [comp_ins]; kernel_rfl
theorem bw_namesG : namesS [bwG] = [bwP, ⟨#[114]⟩] := by unfold namesS; rw [comp_ins]; kernel_rfl
theorem bw_plain : plainL [bwF, bwG] = (0, 0) := by kernel_rfl
theorem bw_plainF : plainF bwF = (0, 0) := by kernel_rfl
theorem bw_some : someV (andNot bwF bwG) [bwP, ⟨#[113]⟩, ⟨#[114]⟩] [] = false := by kernel_rfl
theorem bw_look : lookV [bwF, bwG] = ([bwP, ⟨#[113]⟩, ⟨#[114]⟩], (0, 0)) := by unfold lookV; rw [bw_plain, bw_names]; rfl
theorem bw_lookF : lookV [bwF] = ([bwP, ⟨#[113]⟩], (0, 0)) := by unfold lookV; rw [plainL_one, bw_plainF, bw_namesF]; rfl
theorem bw_in : inN bwF [bwP, ⟨#[114]⟩] = [bwP] := by unfold inN; rw [bw_namesF]; kernel_rfl
theorem bw_inter : interV bwF bwG = (projF bwF [bwP, ⟨#[114]⟩], (0, 0)) := by
  unfold interV
  rw [bw_look, if_neg (by simp), bw_names, bw_some, if_neg (by simp), bw_namesG]
  unfold projectV
  rw [bw_lookF, if_neg (by simp), if_neg (by simp)]
  have : nameBad [bwP, ⟨#[114]⟩] 0 = none := by kernel_rfl
  rw [this]
theorem bw_six : (namesS [bwF]).length ≤ 6 := by rw [bw_namesF]; decide
theorem bw_true : tv (fun x => memB x [bwP]) (projF bwF [bwP, ⟨#[114]⟩]) = true := by
  rw [proj_iff _ (by rw [bw_plainF]) bw_six]
  refine ⟨fun _ => true, fun x hx => ?_, by unfold bwF; rw [tv_5, tv_1, tv_1]; rfl⟩
  rw [bw_in] at hx
  simp at hx; subst hx; kernel_rfl
theorem bw_false : tv (fun x => memB x []) (projF bwF [bwP, ⟨#[114]⟩]) = false := by
  rw [Bool.eq_false_iff, ne_eq, proj_iff _ (by rw [bw_plainF]) bw_six]
  rintro ⟨u, hu, hf⟩
  have := hu bwP (by rw [bw_in]; simp)
  unfold bwF at hf
  rw [tv_5, tv_1, tv_1, this] at hf
  cases hf
def x33 : XC := .seq (.reg [⟨some 0,.assign (.const (.bool false)),none⟩]) (.seq (.reg [⟨some 6,.call ⟨.value (.func 72),#[.const (.string ⟨#[112]⟩)],#[9]⟩,none⟩,⟨some 7,.call ⟨.value (.func 72),#[.const (.string ⟨#[113]⟩)],#[9]⟩,none⟩,⟨some 8,.call ⟨.value (.func 72),#[.const (.string ⟨#[114]⟩)],#[9]⟩,none⟩,⟨some 1,.alloc 24,none⟩,⟨some 2,.alloc 24,none⟩,⟨some 3,.alloc 24,none⟩,⟨none,.store 24 (.tmp 1) (.tmp 6),none⟩,⟨none,.store 24 (.tmp 2) (.tmp 7),none⟩,⟨none,.store 24 (.tmp 3) (.tmp 8),none⟩]) (.seq (.drawn 2 [⟨some 10,.load 24 (.tmp 1),none⟩,⟨some 11,.load 24 (.tmp 2),none⟩,⟨some 12,.call ⟨.value (.func 73),#[.const (.int .i64 5),.tmp 10,.tmp 11],#[3,24,24]⟩,none⟩,⟨some 13,.load 24 (.tmp 1),none⟩,⟨some 14,.load 24 (.tmp 3),none⟩,⟨some 15,.call ⟨.value (.func 73),#[.const (.int .i64 6),.tmp 13,.tmp 14],#[3,24,24]⟩,none⟩,⟨some 16,.call ⟨.value (.func 34),#[.tmp 12,.tmp 15],#[24,24]⟩,none⟩,⟨some 9,.move (.tmp 16),none⟩,⟨some 17,.extract (.tmp 9) 0,none⟩,⟨some 18,.extract (.tmp 9) 1,none⟩,⟨some 4,.alloc 24,none⟩,⟨some 5,.alloc 33,none⟩,⟨none,.store 24 (.tmp 4) (.tmp 17),none⟩,⟨none,.store 33 (.tmp 5) (.tmp 18),none⟩]) (.seq (.reg [⟨some 19,.fieldAddr 33 (.tmp 5) 0,none⟩,⟨some 20,.load 3 (.tmp 19),none⟩,⟨some 21,.binOp .eql 3 (.tmp 20) (.const (.int .i64 0)) 3,none⟩,⟨some 22,.move (.tmp 21),none⟩,⟨some 23,.load 24 (.tmp 4),some (some 22,true)⟩,⟨some 24,.buildSlice 35 1 #[(0,.const (.string ⟨#[112]⟩))],some (some 22,true)⟩,⟨some 25,.call ⟨.value (.func 40),#[.tmp 23,.tmp 24],#[24,35]⟩,some (some 22,true)⟩,⟨some 26,.pick (.tmp 22) (.tmp 25) (.const (.bool false)),none⟩,⟨some 27,.move (.tmp 26),none⟩,⟨some 28,.load 24 (.tmp 4),some (some 27,true)⟩,⟨some 29,.buildSlice 35 1 #[(0,.const (.string ⟨#[112]⟩))],some (some 27,true)⟩,⟨some 30,.call ⟨.value (.func 44),#[.tmp 28,.tmp 29],#[24,35]⟩,some (some 27,true)⟩,⟨some 31,.pick (.tmp 27) (.tmp 30) (.const (.bool false)),none⟩,⟨some 32,.move (.tmp 31),none⟩,⟨some 33,.load 24 (.tmp 4),some (some 32,true)⟩,⟨some 34,.call ⟨.value (.func 44),#[.tmp 33,.const (.slice none 0 0)],#[24,35]⟩,some (some 32,true)⟩,⟨some 35,.unOp .not 4 (.tmp 34),some (some 32,true)⟩,⟨some 36,.pick (.tmp 32) (.tmp 35) (.const (.bool false)),none⟩,⟨some 0,.assign (.tmp 36),none⟩]) (.ret))))
@[simp] theorem x33_s {C : WC} {e : AE} {s : Store} {K : KS} : type_of% (@X_at C e s K _ _ x33.eq_1) := X_at x33.eq_1
def an33 : Ann := ⟨[(2, .tree (.op 0 (.op 1 (.op 3 (.op 4 (.br (.op 2 (.ck 3 (.ck 4 (.br (.op 5 (.br (.op 6 (.op 7 (.op 8 (.op 9 (.br (.op 10 (.op 11 (.op 12 (.op 13 .fin)))) (.op 11 (.op 10 (.op 12 (.op 13 .fin))))))))) (.br (.op 10 (.br (.op 6 (.op 7 (.op 8 (.op 9 (.op 11 (.op 12 (.op 13 .fin))))))) (.op 11 (.op 6 (.op 7 (.op 8 (.op 9 (.op 12 (.op 13 .fin))))))))) (.op 11 (.br (.op 6 (.op 7 (.op 8 (.op 9 (.op 10 (.op 12 (.op 13 .fin))))))) (.op 10 (.op 6 (.op 7 (.op 8 (.op 9 (.op 12 (.op 13 .fin)))))))))))) (.br (.op 10 (.ck 3 (.ck 4 (.br (.op 5 (.br (.op 6 (.op 7 (.op 8 (.op 9 (.op 11 (.op 12 (.op 13 .fin))))))) (.op 11 (.op 6 (.op 7 (.op 8 (.op 9 (.op 12 (.op 13 .fin))))))))) (.op 11 (.ck 3 (.ck 4 (.op 5 (.op 6 (.op 7 (.op 8 (.op 9 (.op 12 (.op 13 .fin)))))))))))))) (.op 11 (.ck 3 (.ck 4 (.br (.op 5 (.br (.op 6 (.op 7 (.op 8 (.op 9 (.op 10 (.op 12 (.op 13 .fin))))))) (.op 10 (.op 6 (.op 7 (.op 8 (.op 9 (.op 12 (.op 13 .fin))))))))) (.op 10 (.ck 3 (.ck 4 (.op 5 (.op 6 (.op 7 (.op 8 (.op 9 (.op 12 (.op 13 .fin))))))))))))))))))) (.br (.op 10 (.ck 0 (.ck 1 (.ck 3 (.ck 4 (.br (.op 2 (.ck 3 (.ck 4 (.br (.op 5 (.br (.op 6 (.op 7 (.op 8 (.op 9 (.op 11 (.op 12 (.op 13 .fin))))))) (.op 11 (.op 6 (.op 7 (.op 8 (.op 9 (.op 12 (.op 13 .fin))))))))) (.op 11 (.ck 3 (.ck 4 (.op 5 (.op 6 (.op 7 (.op 8 (.op 9 (.op 12 (.op 13 .fin)))))))))))))) (.op 11 (.ck 0 (.ck 1 (.ck 3 (.ck 4 (.op 2 (.ck 3 (.ck 4 (.op 5 (.op 6 (.op 7 (.op 8 (.op 9 (.op 12 (.op 13 .fin))))))))))))))))))))) (.op 11 (.ck 0 (.ck 1 (.ck 3 (.ck 4 (.br (.op 2 (.ck 3 (.ck 4 (.br (.op 5 (.br (.op 6 (.op 7 (.op 8 (.op 9 (.op 10 (.op 12 (.op 13 .fin))))))) (.op 10 (.op 6 (.op 7 (.op 8 (.op 9 (.op 12 (.op 13 .fin))))))))) (.op 10 (.ck 3 (.ck 4 (.op 5 (.op 6 (.op 7 (.op 8 (.op 9 (.op 12 (.op 13 .fin)))))))))))))) (.op 10 (.ck 0 (.ck 1 (.ck 3 (.ck 4 (.op 2 (.ck 3 (.ck 4 (.op 5 (.op 6 (.op 7 (.op 8 (.op 9 (.op 12 (.op 13 .fin))))))))))))))))))))))))))))], [], []⟩
def cx33 (P : Program) (m : Nat) : WC := ⟨P, m, an33⟩
@[simp] theorem cx33_a {P : Program} {m : Nat} : (cx33 P m).P = P ∧ (cx33 P m).m = m ∧ (cx33 P m).A.clsOf 2 = .tree (.op 0 (.op 1 (.op 3 (.op 4 (.br (.op 2 (.ck 3 (.ck 4 (.br (.op 5 (.br (.op 6 (.op 7 (.op 8 (.op 9 (.br (.op 10 (.op 11 (.op 12 (.op 13 .fin)))) (.op 11 (.op 10 (.op 12 (.op 13 .fin))))))))) (.br (.op 10 (.br (.op 6 (.op 7 (.op 8 (.op 9 (.op 11 (.op 12 (.op 13 .fin))))))) (.op 11 (.op 6 (.op 7 (.op 8 (.op 9 (.op 12 (.op 13 .fin))))))))) (.op 11 (.br (.op 6 (.op 7 (.op 8 (.op 9 (.op 10 (.op 12 (.op 13 .fin))))))) (.op 10 (.op 6 (.op 7 (.op 8 (.op 9 (.op 12 (.op 13 .fin)))))))))))) (.br (.op 10 (.ck 3 (.ck 4 (.br (.op 5 (.br (.op 6 (.op 7 (.op 8 (.op 9 (.op 11 (.op 12 (.op 13 .fin))))))) (.op 11 (.op 6 (.op 7 (.op 8 (.op 9 (.op 12 (.op 13 .fin))))))))) (.op 11 (.ck 3 (.ck 4 (.op 5 (.op 6 (.op 7 (.op 8 (.op 9 (.op 12 (.op 13 .fin)))))))))))))) (.op 11 (.ck 3 (.ck 4 (.br (.op 5 (.br (.op 6 (.op 7 (.op 8 (.op 9 (.op 10 (.op 12 (.op 13 .fin))))))) (.op 10 (.op 6 (.op 7 (.op 8 (.op 9 (.op 12 (.op 13 .fin))))))))) (.op 10 (.ck 3 (.ck 4 (.op 5 (.op 6 (.op 7 (.op 8 (.op 9 (.op 12 (.op 13 .fin))))))))))))))))))) (.br (.op 10 (.ck 0 (.ck 1 (.ck 3 (.ck 4 (.br (.op 2 (.ck 3 (.ck 4 (.br (.op 5 (.br (.op 6 (.op 7 (.op 8 (.op 9 (.op 11 (.op 12 (.op 13 .fin))))))) (.op 11 (.op 6 (.op 7 (.op 8 (.op 9 (.op 12 (.op 13 .fin))))))))) (.op 11 (.ck 3 (.ck 4 (.op 5 (.op 6 (.op 7 (.op 8 (.op 9 (.op 12 (.op 13 .fin)))))))))))))) (.op 11 (.ck 0 (.ck 1 (.ck 3 (.ck 4 (.op 2 (.ck 3 (.ck 4 (.op 5 (.op 6 (.op 7 (.op 8 (.op 9 (.op 12 (.op 13 .fin))))))))))))))))))))) (.op 11 (.ck 0 (.ck 1 (.ck 3 (.ck 4 (.br (.op 2 (.ck 3 (.ck 4 (.br (.op 5 (.br (.op 6 (.op 7 (.op 8 (.op 9 (.op 10 (.op 12 (.op 13 .fin))))))) (.op 10 (.op 6 (.op 7 (.op 8 (.op 9 (.op 12 (.op 13 .fin))))))))) (.op 10 (.ck 3 (.ck 4 (.op 5 (.op 6 (.op 7 (.op 8 (.op 9 (.op 12 (.op 13 .fin)))))))))))))) (.op 10 (.ck 0 (.ck 1 (.ck 3 (.ck 4 (.op 2 (.ck 3 (.ck 4 (.op 5 (.op 6 (.op 7 (.op 8 (.op 9 (.op 12 (.op 13 .fin))))))))))))))))))))))))))) ∧ (cx33 P m).A.frzOf 2 = [] := ⟨rfl, rfl, rfl, rfl⟩
instance {P : Program} {m f : Nat} [h : EnT P f] : EnT (cx33 P m).P f := h
theorem chk33 : ∀ c, Try.f33.body = some c → chkC Try.f33.ntmps an33 c = true := by intro c h; obtain rfl := Option.some.inj h; decide +kernel
theorem op33 {args : List PV} {v : PV} (h : X (cx33 Try.prog 0) x33 (argsA 0 args) [] (.fin [.tmp 0] fun v1 s1 => deref s1 6 v1 = v)) (hl : args.length ≤ Try.f33.ntmps := by rw [Try.ntmps33]; simp) : CallOK Try.prog 33 args [] v [] :=
  callX (m := 0) (cx33 Try.prog 0) x33 rfl rfl (by kernel_rfl) Try.func33 rfl rfl hl mixed (chk33 _ rfl) (by rw [Try.results33]; exact h)

theorem betweenBegun_law : CallOK Try.prog 33 [] [] (.bool true) [] := by
  have h1 := named_law ⟨#[112]⟩
  have h2 := named_law ⟨#[113]⟩
  have h3 := named_law ⟨#[114]⟩
  have h4 := both_law 5 (.mk 1 ⟨#[112]⟩ []) (.mk 1 ⟨#[113]⟩ [])
  have h5 := both_law 6 (.mk 1 ⟨#[112]⟩ []) (.mk 1 ⟨#[114]⟩ [])
  have h6 := Interpolate_between bwF bwG
  rw [bw_inter] at h6
  have hg := (proj_good (f := bwF) [bwP, ⟨#[114]⟩] (by rw [bw_plainF]) bw_six)
  rw [bw_in] at hg
  have h7 := plainAnswer_law _ [bwP] (hg.mono (fun x hx => hx) (by decide))
  have h8 := True_ref [bwP] _ hg.1
  have h9 := callOK_soft (args := [.agg (frm (projF bwF [bwP, ⟨#[114]⟩])), .nilsl]) (True_ref [] _ hg.1) (.cons .refl (.cons .nil .nil))
  rw [bw_true] at h8
  rw [bw_false] at h9
  have e4 : Fm.mk 5 ⟨#[]⟩ [.mk 1 ⟨#[112]⟩ [], .mk 1 ⟨#[113]⟩ []] = bwF := rfl
  have e5 : Fm.mk 6 ⟨#[]⟩ [.mk 1 ⟨#[112]⟩ [], .mk 1 ⟨#[114]⟩ []] = bwG := rfl
  rw [e4] at h4
  rw [e5] at h5
  clear hg
  generalize projF bwF [bwP, ⟨#[114]⟩] = P at *
  simp only [List.map_cons, List.map_nil, strRow, bwP] at h7 h8
  generalize bwF = F at *
  generalize bwG = G at *
  generalize Fm.mk 1 ⟨#[112]⟩ [] = p at *
  generalize Fm.mk 1 ⟨#[113]⟩ [] = q at *
  generalize Fm.mk 1 ⟨#[114]⟩ [] = r at *
  refine op33 ?_
  (((try simp (implicitDefEqProofs := false)); (try simp (implicitDefEqProofs := false) (disch := first | assumption | (try simp only [lens]); omega -splitDisjunctions))); all_goals try (repeat' ((first | ((with_reducible first | refine And.intro ?_ ?_ | refine Exists.intro ?_ ?_); first | omega | (simp <;> omega)) | (with_reducible refine spl (And.intro ?_ ?_) <;> intro _) | (refine CL.clo (h1) ?_) | (refine CM.clo (h1) ?_) | (refine CD.clo (h1) ?_) | (refine CL.clo (h2) ?_) | (refine CM.clo (h2) ?_) | (refine CD.clo (h2) ?_) | (refine CL.clo (h3) ?_) | (refine CM.clo (h3) ?_) | (refine CD.clo (h3) ?_)) <;> ((try simp (implicitDefEqProofs := false)); (try simp (implicitDefEqProofs := false) (disch := first | assumption | (try simp only [lens]); omega -splitDisjunctions))))))
  refine joinK (K := ?K) ?_ ?_
  rotate_left 1
  · intro key
    repeat' (first | (refine And.intro ?_ ?_) | (refine CT.clo h4 ?_; (((try simp (implicitDefEqProofs := false)); (try simp (implicitDefEqProofs := false) (disch := first | assumption | (try simp only [lens]); omega -splitDisjunctions))); all_goals try (repeat' ((first | ((with_reducible first | refine And.intro ?_ ?_ | refine Exists.intro ?_ ?_); first | omega | (simp <;> omega)) | (with_reducible refine spl (And.intro ?_ ?_) <;> intro _)) <;> ((try simp (implicitDefEqProofs := false)); (try simp (implicitDefEqProofs := false) (disch := first | assumption | (try simp only [lens]); omega -splitDisjunctions))))))) | (refine CT.clo h5 ?_; (((try simp (implicitDefEqProofs := false)); (try simp (implicitDefEqProofs := false) (disch := first | assumption | (try simp only [lens]); omega -splitDisjunctions))); all_goals try (repeat' ((first | ((with_reducible first | refine And.intro ?_ ?_ | refine Exists.intro ?_ ?_); first | omega | (simp <;> omega)) | (with_reducible refine spl (And.intro ?_ ?_) <;> intro _)) <;> ((try simp (implicitDefEqProofs := false)); (try simp (implicitDefEqProofs := false) (disch := first | assumption | (try simp only [lens]); omega -splitDisjunctions))))))) | (refine CT.clo h6 ?_; (((try simp (implicitDefEqProofs := false)); (try simp (implicitDefEqProofs := false) (disch := first | assumption | (try simp only [lens]); omega -splitDisjunctions))); all_goals try (repeat' ((first | ((with_reducible first | refine And.intro ?_ ?_ | refine Exists.intro ?_ ?_); first | omega | (simp <;> omega)) | (with_reducible refine spl (And.intro ?_ ?_) <;> intro _)) <;> ((try simp (implicitDefEqProofs := false)); (try simp (implicitDefEqProofs := false) (disch := first | assumption | (try simp only [lens]); omega -splitDisjunctions))))))))
    all_goals refine CL.gc [] [] [4, 22, 23, 24] ?_
    all_goals ((((try simp (implicitDefEqProofs := false)); (try simp (implicitDefEqProofs := false) (disch := first | assumption | (try simp only [lens]); omega -splitDisjunctions))); all_goals try (repeat' ((first | ((with_reducible first | refine And.intro ?_ ?_ | refine Exists.intro ?_ ?_); first | omega | (simp <;> omega)) | (with_reducible refine spl (And.intro ?_ ?_) <;> intro _)) <;> ((try simp (implicitDefEqProofs := false)); (try simp (implicitDefEqProofs := false) (disch := first | assumption | (try simp only [lens]); omega -splitDisjunctions)))))))
    all_goals exact key.h
  (((try simp (implicitDefEqProofs := false)); (try simp (implicitDefEqProofs := false) (disch := first | assumption | (try simp only [lens]); omega -splitDisjunctions))); all_goals try (repeat' ((first | ((with_reducible first | refine And.intro ?_ ?_ | refine Exists.intro ?_ ?_); first | omega | (simp <;> omega)) | (with_reducible refine spl (And.intro ?_ ?_) <;> intro _) | (refine CL.see (h7) ?_ ?_ ?_; (focus (first | (simp; done) | (simp [scn]; done))); (focus (simp [flats]; done))) | (refine CD.see (h7) ?_ ?_ ?_; (focus (first | (simp; done) | (simp [scn]; done))); (focus (simp [flats]; done))) | (refine CL.see (h8) ?_ ?_ ?_; (focus (first | (simp; done) | (simp [scn]; done))); (focus (simp [flats]; done))) | (refine CD.see (h8) ?_ ?_ ?_; (focus (first | (simp; done) | (simp [scn]; done))); (focus (simp [flats]; done))) | (refine CL.clo (h9) ?_) | (refine CM.clo (h9) ?_) | (refine CD.clo (h9) ?_)) <;> ((try simp (implicitDefEqProofs := false)); (try simp (implicitDefEqProofs := false) (disch := first | assumption | (try simp only [lens]); omega -splitDisjunctions))))))
  all_goals trace_state
end Go.Proofs.Ytnoklmapofogeaa
