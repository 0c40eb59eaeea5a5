/-
  law02: named, truthBegun.
-/
import Derived.Test.YtbmpmmbcfabeeaaTrJ
import Derived.Test.YtbmpmmbcfabeeaaTrG
namespace Go.Proofs.Ytbmpmmbcfabeeaa
open Go Go.Pv
set_option linter.unusedVariables false
set_option linter.unusedSimpArgs false
set_option maxRecDepth 100000
set_option maxHeartbeats 4000000

def x50 : XC := .seq (.reg [⟨some 2,.alloc 24,none⟩]) (.seq (.reg [⟨some 3,.move (.tmp 0),none⟩,⟨some 4,.build 24 #[(0,.const (.int .i64 1)),(1,.tmp 3)],none⟩,⟨none,.store 24 (.tmp 2) (.tmp 4),none⟩]) (.ret))
@[simp] theorem x50_s {C : WC} {e : AE} {s : Store} {K : KS} : type_of% (@X_at C e s K _ _ x50.eq_1) := X_at x50.eq_1
def an50 : Ann := ⟨[], [], []⟩
def cx50 (P : Program) (m : Nat) : WC := ⟨P, m, an50⟩
@[simp] theorem cx50_a {P : Program} {m : Nat} : (cx50 P m).P = P ∧ (cx50 P m).m = m := ⟨rfl, rfl⟩
instance {P : Program} {m f : Nat} [h : EnT P f] : EnT (cx50 P m).P f := h
theorem chk50 : ∀ c, Try.f50.body = some c → chkC Try.f50.ntmps an50 c = true := by intro c h; obtain rfl := Option.some.inj h; decide +kernel
theorem os50 {args : List PV} {v : PV} (h : X (cx50 Try.prog 0) x50 (argsA 0 args) [] (.fin [.cell 2 24] fun v1 s1 => softV (deref s1 6 v1) = v)) (hl : args.length ≤ Try.f50.ntmps := by rw [Try.ntmps50]; simp) : CallOK Try.prog 50 args [] v [] :=
  callXF (m := 0) (cx50 Try.prog 0) x50 rfl rfl (by kernel_rfl) Try.func50 rfl rfl hl mixed (chk50 _ rfl) (by rw [Try.results50]; exact h)

theorem named_law (nm : ByteArray) : CallOK Try.prog 50 [.str nm] [] (.agg (frm (.mk 1 nm []))) [] := by
  refine os50 ?_
  (((try simp (implicitDefEqProofs := false)); (try simp (implicitDefEqProofs := false) (disch := first | assumption | (try simp only [lens]); omega -splitDisjunctions))); all_goals try (repeat' ((first | ((with_reducible first | refine And.intro ?_ ?_ | refine Exists.intro ?_ ?_); first | omega | (simp <;> omega)) | (with_reducible refine spl (And.intro ?_ ?_) <;> intro _)) <;> ((try simp (implicitDefEqProofs := false)); (try simp (implicitDefEqProofs := false) (disch := first | assumption | (try simp only [lens]); omega -splitDisjunctions))))))
  rw [frm_eq]; rfl
def bgF : Fm := .mk 7 ⟨#[]⟩ [.mk 1 ⟨#[112]⟩ [], .mk 1 ⟨#[113]⟩ []]
theorem bg_names : namesF bgF = [⟨#[112]⟩, ⟨#[113]⟩] := by unfold namesF; rw [comp_ins]; kernel_rfl
theorem bg_plain : plainF bgF = (0, 0) := by kernel_rfl
theorem bg_fst : fstF (rowsB [⟨#[112]⟩, ⟨#[113]⟩] bgF) = some 1 := by kernel_rfl
theorem bg_few : fewV bgF = ([⟨#[112]⟩, ⟨#[113]⟩], (0, 0)) := by unfold fewV; rw [bg_plain, bg_names]; rfl
theorem bg_valid : validV bgF = (false, [⟨#[112]⟩]) := by unfold validV; rw [bg_few, bg_names, bg_fst]; rfl
theorem bg_comp : compV [⟨2, [true, true, true, false]⟩] = (true, [false, false, false, false, false]) := by kernel_rfl
theorem bg_tabF : tabF [⟨2, [true, true, true, false]⟩] = (0, 0) := by kernel_rfl
def x28 : XC := .seq (.reg [⟨some 0,.assign (.const (.bool false)),none⟩]) (.seq (.reg [⟨some 8,.call ⟨.value (.func 50),#[.const (.string ⟨#[112]⟩)],#[9]⟩,none⟩,⟨some 9,.call ⟨.value (.func 50),#[.const (.string ⟨#[113]⟩)],#[9]⟩,none⟩,⟨some 10,.call ⟨.value (.func 36),#[.const (.int .i64 7),.tmp 8,.tmp 9],#[3,24,24]⟩,none⟩,⟨some 11,.call ⟨.value (.func 35),#[.tmp 10],#[24]⟩,none⟩,⟨some 7,.move (.tmp 11),none⟩,⟨some 12,.extract (.tmp 7) 0,none⟩,⟨some 13,.extract (.tmp 7) 1,none⟩,⟨some 14,.extract (.tmp 7) 2,none⟩,⟨some 3,.alloc 29,none⟩,⟨some 1,.assign (.tmp 12),none⟩,⟨some 2,.assign (.tmp 13),none⟩,⟨none,.store 29 (.tmp 3) (.tmp 14),none⟩]) (.seq (.reg [⟨some 16,.buildSlice 46 4 #[(0,.const (.bool true)),(1,.const (.bool true)),(2,.const (.bool true)),(3,.const (.bool false))],none⟩,⟨some 17,.build 48 #[(0,.const (.int .i64 2)),(1,.tmp 16)],none⟩,⟨some 18,.buildSlice 40 1 #[(0,.tmp 17)],none⟩,⟨some 19,.call ⟨.value (.func 26),#[.tmp 18],#[40]⟩,none⟩,⟨some 15,.move (.tmp 19),none⟩,⟨some 20,.extract (.tmp 15) 0,none⟩,⟨some 21,.extract (.tmp 15) 1,none⟩,⟨some 22,.extract (.tmp 15) 2,none⟩,⟨some 5,.alloc 41,none⟩,⟨some 6,.alloc 29,none⟩,⟨some 4,.assign (.tmp 20),none⟩,⟨none,.store 41 (.tmp 5) (.tmp 21),none⟩,⟨none,.store 29 (.tmp 6) (.tmp 22),none⟩]) (.seq (.reg [⟨some 23,.fieldAddr 29 (.tmp 3) 0,none⟩,⟨some 24,.load 3 (.tmp 23),none⟩,⟨some 25,.binOp .eql 3 (.tmp 24) (.const (.int .i64 0)) 3,none⟩,⟨some 26,.move (.tmp 25),none⟩,⟨some 27,.fieldAddr 29 (.tmp 6) 0,some (some 26,true)⟩,⟨some 28,.load 3 (.tmp 27),some (some 26,true)⟩,⟨some 29,.binOp .eql 3 (.tmp 28) (.const (.int .i64 0)) 3,some (some 26,true)⟩,⟨some 30,.pick (.tmp 26) (.tmp 29) (.const (.bool false)),none⟩,⟨some 31,.move (.tmp 30),none⟩,⟨some 32,.move (.tmp 1),some (some 31,true)⟩,⟨some 33,.unOp .not 4 (.tmp 32),some (some 31,true)⟩,⟨some 34,.pick (.tmp 31) (.tmp 33) (.const (.bool false)),none⟩,⟨some 35,.move (.tmp 34),none⟩,⟨some 36,.move (.tmp 2),some (some 35,true)⟩,⟨some 37,.buildSlice 53 1 #[(0,.const (.string ⟨#[112]⟩))],some (some 35,true)⟩,⟨some 38,.call ⟨.value (.func 59),#[.tmp 36,.tmp 37],#[53,53]⟩,some (some 35,true)⟩,⟨some 39,.pick (.tmp 35) (.tmp 38) (.const (.bool false)),none⟩,⟨some 40,.move (.tmp 39),none⟩,⟨some 41,.move (.tmp 4),some (some 40,true)⟩,⟨some 42,.pick (.tmp 40) (.tmp 41) (.const (.bool false)),none⟩,⟨some 0,.assign (.tmp 42),none⟩]) (.ret))))
@[simp] theorem x28_s {C : WC} {e : AE} {s : Store} {K : KS} : type_of% (@X_at C e s K _ _ x28.eq_1) := X_at x28.eq_1
def an28 : Ann := ⟨[], [], []⟩
def cx28 (P : Program) (m : Nat) : WC := ⟨P, m, an28⟩
@[simp] theorem cx28_a {P : Program} {m : Nat} : (cx28 P m).P = P ∧ (cx28 P m).m = m := ⟨rfl, rfl⟩
instance {P : Program} {m f : Nat} [h : EnT P f] : EnT (cx28 P m).P f := h
theorem chk28 : ∀ c, Try.f28.body = some c → chkC Try.f28.ntmps an28 c = true := by intro c h; obtain rfl := Option.some.inj h; decide +kernel
theorem op28 {args : List PV} {v : PV} (h : X (cx28 Try.prog 0) x28 (argsA 0 args) [] (.fin [.tmp 0] fun v1 s1 => deref s1 6 v1 = v)) (hl : args.length ≤ Try.f28.ntmps := by rw [Try.ntmps28]; simp) : CallOK Try.prog 28 args [] v [] :=
  callX (m := 0) (cx28 Try.prog 0) x28 rfl rfl (by kernel_rfl) Try.func28 rfl rfl hl mixed (chk28 _ rfl) (by rw [Try.results28]; exact h)

theorem truthBegun_law : CallOK Try.prog 28 [] [] (.bool true) [] := by
  have hv := Valid_truth bgF
  rw [bg_few, bg_valid] at hv
  have hc := Complete_truth [⟨2, [true, true, true, false]⟩]
  rw [bg_comp, bg_tabF] at hc
  have ht := Texts_ref [⟨#[112]⟩] [⟨#[112]⟩]
  rw [decide_eq_true rfl] at ht
  have hn1 := named_law ⟨#[112]⟩
  have hn2 := named_law ⟨#[113]⟩
  have hb : CallOK Try.prog 36 [.int .i64 7, .agg (frm (.mk 1 ⟨#[112]⟩ [])), .agg (frm (.mk 1 ⟨#[113]⟩ []))] [] (.agg (frm bgF)) [] := both_law 7 (.mk 1 ⟨#[112]⟩ []) (.mk 1 ⟨#[113]⟩ []) []
  simp only [List.map_cons, List.map_nil, tab, boolRow, strRow] at hc ht hv
  generalize bgF = f at *
  refine op28 ?_
  (((try simp (implicitDefEqProofs := false)); (try simp (implicitDefEqProofs := false) (disch := first | assumption | (try simp only [lens]); omega -splitDisjunctions))); all_goals try (repeat' ((first | ((with_reducible first | refine And.intro ?_ ?_ | refine Exists.intro ?_ ?_); first | omega | (simp <;> omega)) | (with_reducible refine spl (And.intro ?_ ?_) <;> intro _) | (refine CL.clo (hn1) ?_) | (refine CM.clo (hn1) ?_) | (refine CD.clo (hn1) ?_) | (refine CL.clo (hn2) ?_) | (refine CM.clo (hn2) ?_) | (refine CD.clo (hn2) ?_) | (refine CL.clo (hb) ?_) | (refine CM.clo (hb) ?_) | (refine CD.clo (hb) ?_) | (refine CL.clo (hv) ?_) | (refine CM.clo (hv) ?_) | (refine CD.clo (hv) ?_)) <;> ((try simp (implicitDefEqProofs := false)); (try simp (implicitDefEqProofs := false) (disch := first | assumption | (try simp only [lens]); omega -splitDisjunctions))))))
  refine CL.giv [2] ?_
  (((try simp (implicitDefEqProofs := false)); (try simp (implicitDefEqProofs := false) (disch := first | assumption | (try simp only [lens]); omega -splitDisjunctions))); all_goals try (repeat' ((first | ((with_reducible first | refine And.intro ?_ ?_ | refine Exists.intro ?_ ?_); first | omega | (simp <;> omega)) | (with_reducible refine spl (And.intro ?_ ?_) <;> intro _) | (refine CL.clo (hc) ?_) | (refine CM.clo (hc) ?_) | (refine CD.clo (hc) ?_) | (refine CL.see (ht) ?_ ?_ ?_; (focus (first | (simp; done) | (simp [scn]; done))); (focus (simp [flats]; done))) | (refine CD.see (ht) ?_ ?_ ?_; (focus (first | (simp; done) | (simp [scn]; done))); (focus (simp [flats]; done)))) <;> ((try simp (implicitDefEqProofs := false)); (try simp (implicitDefEqProofs := false) (disch := first | assumption | (try simp only [lens]); omega -splitDisjunctions))))))
end Go.Proofs.Ytbmpmmbcfabeeaa
