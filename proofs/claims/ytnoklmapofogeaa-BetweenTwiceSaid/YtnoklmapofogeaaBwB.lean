/-
  between: some, choose.
-/
import Derived.Test.YtnoklmapofogeaaBwA
namespace Go.Proofs.Ytnoklmapofogeaa
open Go Go.Pv
set_option linter.unusedVariables false
set_option linter.unusedSimpArgs false
set_option maxRecDepth 100000
set_option maxHeartbeats 4000000

/-- is a formula true for some values of names, those that are held being true? -/
def someV (f : Fm) : List ByteArray → List ByteArray → Bool
  | [], held => (valueV f held).1
  | n :: r, held => someV f r (held ++ [n]) || someV f r held
def x75 : XC := .seq (.reg [⟨some 3,.box 24 (.tmp 0),none⟩,⟨some 6,.assign (.const (.bool false)),none⟩]) (.seq (.seq (.reg [⟨some 9,.move (.tmp 1),none⟩,⟨some 10,.call ⟨.builtin .len,#[.tmp 9],#[35]⟩,none⟩,⟨some 11,.binOp .eql 3 (.tmp 10) (.const (.int .i64 0)) 3,none⟩]) (.cond (.tmp 11) (.seq (.reg [⟨some 13,.load 24 (.tmp 3),none⟩,⟨some 14,.move (.tmp 2),none⟩,⟨some 15,.call ⟨.value (.func 92),#[.tmp 13,.tmp 14],#[24,35]⟩,none⟩,⟨some 12,.move (.tmp 15),none⟩,⟨some 16,.extract (.tmp 12) 0,none⟩,⟨some 17,.extract (.tmp 12) 1,none⟩,⟨some 8,.alloc 33,none⟩,⟨some 7,.assign (.tmp 16),none⟩,⟨none,.store 33 (.tmp 8) (.tmp 17),none⟩]) (.seq (.reg [⟨some 18,.move (.tmp 7),none⟩,⟨some 6,.assign (.tmp 18),none⟩]) (.ret))) (.skip))) (.seq (.drawn 4 [⟨some 19,.load 24 (.tmp 3),none⟩,⟨some 20,.move (.tmp 1),none⟩,⟨some 21,.slice 35 (.tmp 20) (some (.const (.int .i64 1))) none none,none⟩,⟨some 22,.move (.tmp 2),none⟩,⟨some 23,.call ⟨.value (.func 93),#[.tmp 22],#[35]⟩,none⟩,⟨some 24,.move (.tmp 1),none⟩,⟨some 25,.indexAddr 35 (.tmp 24) (.const (.int .i64 0)),none⟩,⟨some 26,.load 9 (.tmp 25),none⟩,⟨some 27,.buildSlice 35 1 #[(0,.tmp 26)],none⟩,⟨some 28,.call ⟨.builtin .append,#[.tmp 23,.tmp 27],#[35,35]⟩,none⟩,⟨some 29,.call ⟨.value (.func 75),#[.tmp 19,.tmp 21,.tmp 28],#[24,35,35]⟩,none⟩,⟨some 30,.move (.tmp 29),none⟩,⟨some 31,.load 24 (.tmp 3),some (some 30,false)⟩,⟨some 32,.move (.tmp 1),some (some 30,false)⟩,⟨some 33,.slice 35 (.tmp 32) (some (.const (.int .i64 1))) none none,some (some 30,false)⟩,⟨some 34,.move (.tmp 2),some (some 30,false)⟩,⟨some 35,.call ⟨.value (.func 75),#[.tmp 31,.tmp 33,.tmp 34],#[24,35,35]⟩,some (some 30,false)⟩,⟨some 36,.pick (.tmp 30) (.const (.bool true)) (.tmp 35),none⟩,⟨some 6,.assign (.tmp 36),none⟩]) (.ret)))
@[simp] theorem x75_s {C : WC} {e : AE} {s : Store} {K : KS} : type_of% (@X_at C e s K _ _ x75.eq_1) := X_at x75.eq_1
def an75 : Ann := ⟨[(4, .mixz 16)], [], []⟩
def cx75 (P : Program) (m : Nat) : WC := ⟨P, m, an75⟩
@[simp] theorem cx75_a {P : Program} {m : Nat} : (cx75 P m).P = P ∧ (cx75 P m).m = m ∧ (cx75 P m).A.clsOf 4 = .mixz 16 ∧ (cx75 P m).A.frzOf 4 = [] := ⟨rfl, rfl, rfl, rfl⟩
instance {P : Program} {m f : Nat} [h : EnT P f] : EnT (cx75 P m).P f := h
theorem chk75 : ∀ c, Try.f75.body = some c → chkC Try.f75.ntmps an75 c = true := by intro c h; obtain rfl := Option.some.inj h; decide +kernel
theorem op75 {args : List PV} {v : PV} (h : X (cx75 Try.prog 0) x75 (argsA 0 args) [] (.fin [.tmp 6] fun v1 s1 => deref s1 6 v1 = v)) (hl : args.length ≤ Try.f75.ntmps := by rw [Try.ntmps75]; simp) : CallOK Try.prog 75 args [] v [] :=
  callX (m := 0) (cx75 Try.prog 0) x75 rfl rfl (by kernel_rfl) Try.func75 rfl rfl hl mixed (chk75 _ rfl) (by rw [Try.results75]; exact h)

theorem some_between (f : Fm) : ∀ (ns held : List ByteArray), ns.length + held.length ≤ 1000 → CallOK Try.prog 75 [.agg (frm f), .list (ns.map strRow), .list (held.map strRow)] [] (.bool (someV f ns held)) []
  | [], held, hl => by
    have hv := Value_truth f held
    rw [someV]
    generalize valueV f held = V at *
    refine op75 ?_
    (((try simp (implicitDefEqProofs := false)); (try simp (implicitDefEqProofs := false) (disch := first | assumption | (try simp only [lens]); omega -splitDisjunctions))); all_goals try (repeat' ((first | ((with_reducible first | refine And.intro ?_ ?_ | refine Exists.intro ?_ ?_); first | omega | (simp <;> omega)) | (with_reducible refine spl (And.intro ?_ ?_) <;> intro _) | (refine CL.clo (hv) ?_) | (refine CM.clo (hv) ?_) | (refine CD.clo (hv) ?_)) <;> ((try simp (implicitDefEqProofs := false)); (try simp (implicitDefEqProofs := false) (disch := first | assumption | (try simp only [lens]); omega -splitDisjunctions))))))
  | n :: r, held, hl => by
    have h1 := some_between f r (held ++ [n]) (by simp at hl ⊢; omega)
    have h2 := some_between f r held (by simp at hl ⊢; omega)
    have hc := Clip_strs held (by omega)
    rw [someV]
    have hhl : held.length ≤ 1000 := by omega
    simp only [List.map_append, List.map_cons, List.map_nil] at h1
    refine op75 ?_
    generalize someV f r (held ++ [n]) = x at *
    generalize someV f r held = y at *
    cases x
    · (((try simp (implicitDefEqProofs := false)); (try simp (implicitDefEqProofs := false) (disch := first | assumption | (try simp only [lens]); omega -splitDisjunctions))); all_goals try (repeat' ((first | ((with_reducible first | refine And.intro ?_ ?_ | refine Exists.intro ?_ ?_); first | omega | (simp <;> omega)) | (with_reducible refine spl (And.intro ?_ ?_) <;> intro _) | (refine CL.clo (hc) ?_) | (refine CM.clo (hc) ?_) | (refine CD.clo (hc) ?_) | (refine CL.clo (h1) ?_) | (refine CM.clo (h1) ?_) | (refine CD.clo (h1) ?_) | (refine CL.clo (h2) ?_) | (refine CM.clo (h2) ?_) | (refine CD.clo (h2) ?_)) <;> ((try simp (implicitDefEqProofs := false)); (try simp (implicitDefEqProofs := false) (disch := first | assumption | (try simp only [lens]); omega -splitDisjunctions))))))
      all_goals trace_state
    · (((try simp (implicitDefEqProofs := false)); (try simp (implicitDefEqProofs := false) (disch := first | assumption | (try simp only [lens]); omega -splitDisjunctions))); all_goals try (repeat' ((first | ((with_reducible first | refine And.intro ?_ ?_ | refine Exists.intro ?_ ?_); first | omega | (simp <;> omega)) | (with_reducible refine spl (And.intro ?_ ?_) <;> intro _) | (refine CL.clo (hc) ?_) | (refine CM.clo (hc) ?_) | (refine CD.clo (hc) ?_) | (refine CL.clo (h1) ?_) | (refine CM.clo (h1) ?_) | (refine CD.clo (h1) ?_) | (refine CL.clo (h2) ?_) | (refine CM.clo (h2) ?_) | (refine CD.clo (h2) ?_)) <;> ((try simp (implicitDefEqProofs := false)); (try simp (implicitDefEqProofs := false) (disch := first | assumption | (try simp only [lens]); omega -splitDisjunctions))))))
      all_goals trace_state
/-- a formula of names that is true where b says so -/
noncomputable def chooseF (b : List ByteArray → Bool) : List ByteArray → List ByteArray → Fm
  | [], held => constF (b held)
  | n :: r, held => if sameB (chooseF b r (held ++ [n])) (chooseF b r held) = true then chooseF b r (held ++ [n]) else
      .mk 6 ⟨#[]⟩ [.mk 5 ⟨#[]⟩ [.mk 1 n [], chooseF b r (held ++ [n])], .mk 5 ⟨#[]⟩ [.mk 4 ⟨#[]⟩ [.mk 1 n []], chooseF b r held]]
def x85 : XC := .seq (.reg [⟨some 6,.alloc 24,none⟩]) (.seq (.seq (.reg [⟨some 11,.move (.tmp 0),none⟩,⟨some 12,.call ⟨.builtin .len,#[.tmp 11],#[35]⟩,none⟩,⟨some 13,.binOp .eql 3 (.tmp 12) (.const (.int .i64 0)) 3,none⟩]) (.cond (.tmp 13) (.seq (.reg [⟨some 14,.move (.tmp 2),none⟩,⟨some 15,.move (.tmp 1),none⟩,⟨some 16,.call ⟨.value (.tmp 14),#[.tmp 15],#[35]⟩,none⟩,⟨some 17,.call ⟨.value (.func 105),#[.tmp 16],#[4]⟩,none⟩,⟨none,.store 24 (.tmp 6) (.tmp 17),none⟩]) (.ret)) (.skip))) (.seq (.reg [⟨some 18,.move (.tmp 0),none⟩,⟨some 19,.indexAddr 35 (.tmp 18) (.const (.int .i64 0)),none⟩,⟨some 20,.load 9 (.tmp 19),none⟩,⟨some 21,.build 24 #[(0,.const (.int .i64 1)),(1,.tmp 20)],none⟩,⟨some 7,.alloc 24,none⟩,⟨none,.store 24 (.tmp 7) (.tmp 21),none⟩]) (.seq (.drawn 4 [⟨some 22,.move (.tmp 0),none⟩,⟨some 23,.slice 35 (.tmp 22) (some (.const (.int .i64 1))) none none,none⟩,⟨some 24,.move (.tmp 1),none⟩,⟨some 25,.call ⟨.value (.func 93),#[.tmp 24],#[35]⟩,none⟩,⟨some 26,.move (.tmp 0),none⟩,⟨some 27,.indexAddr 35 (.tmp 26) (.const (.int .i64 0)),none⟩,⟨some 28,.load 9 (.tmp 27),none⟩,⟨some 29,.buildSlice 35 1 #[(0,.tmp 28)],none⟩,⟨some 30,.call ⟨.builtin .append,#[.tmp 25,.tmp 29],#[35,35]⟩,none⟩,⟨some 31,.move (.tmp 2),none⟩,⟨some 32,.call ⟨.value (.func 85),#[.tmp 23,.tmp 30,.tmp 31],#[35,35,76]⟩,none⟩,⟨some 8,.alloc 24,none⟩,⟨none,.store 24 (.tmp 8) (.tmp 32),none⟩]) (.seq (.reg [⟨some 33,.move (.tmp 0),none⟩,⟨some 34,.slice 35 (.tmp 33) (some (.const (.int .i64 1))) none none,none⟩,⟨some 35,.move (.tmp 1),none⟩,⟨some 36,.move (.tmp 2),none⟩,⟨some 37,.call ⟨.value (.func 85),#[.tmp 34,.tmp 35,.tmp 36],#[35,35,76]⟩,none⟩,⟨some 9,.alloc 24,none⟩,⟨none,.store 24 (.tmp 9) (.tmp 37),none⟩]) (.seq (.seq (.reg [⟨some 38,.load 24 (.tmp 8),none⟩,⟨some 39,.load 24 (.tmp 9),none⟩,⟨some 40,.call ⟨.value (.func 106),#[.tmp 38,.tmp 39],#[24,24]⟩,none⟩]) (.cond (.tmp 40) (.seq (.reg [⟨some 41,.load 24 (.tmp 8),none⟩,⟨none,.store 24 (.tmp 6) (.tmp 41),none⟩]) (.ret)) (.skip))) (.seq (.reg [⟨some 42,.load 24 (.tmp 7),none⟩,⟨some 43,.buildSlice 22 1 #[(0,.tmp 42)],none⟩,⟨some 44,.build 24 #[(0,.const (.int .i64 4)),(2,.tmp 43)],none⟩,⟨some 10,.alloc 24,none⟩,⟨none,.store 24 (.tmp 10) (.tmp 44),none⟩]) (.seq (.drawn 9 [⟨some 45,.load 24 (.tmp 7),none⟩,⟨some 46,.load 24 (.tmp 8),none⟩,⟨some 47,.call ⟨.value (.func 76),#[.const (.int .i64 5),.tmp 45,.tmp 46],#[3,24,24]⟩,none⟩,⟨some 48,.load 24 (.tmp 10),none⟩,⟨some 49,.load 24 (.tmp 9),none⟩,⟨some 50,.call ⟨.value (.func 76),#[.const (.int .i64 5),.tmp 48,.tmp 49],#[3,24,24]⟩,none⟩,⟨some 51,.call ⟨.value (.func 76),#[.const (.int .i64 6),.tmp 47,.tmp 50],#[3,24,24]⟩,none⟩,⟨none,.store 24 (.tmp 6) (.tmp 51),none⟩]) (.ret))))))))
@[simp] theorem x85_s {C : WC} {e : AE} {s : Store} {K : KS} : type_of% (@X_at C e s K _ _ x85.eq_1) := X_at x85.eq_1
def an85 : Ann := ⟨[(4, .mixz 12), (9, .mix 5)], [], [(9, [43])]⟩
def cx85 (P : Program) (m : Nat) : WC := ⟨P, m, an85⟩
@[simp] theorem cx85_a {P : Program} {m : Nat} : (cx85 P m).P = P ∧ (cx85 P m).m = m ∧ (cx85 P m).A.clsOf 4 = .mixz 12 ∧ (cx85 P m).A.clsOf 9 = .mix 5 ∧ (cx85 P m).A.frzOf 4 = [] ∧ (cx85 P m).A.frzOf 9 = [43] := ⟨rfl, rfl, rfl, rfl, rfl, rfl⟩
instance {P : Program} {m f : Nat} [h : EnT P f] : EnT (cx85 P m).P f := h
theorem chk85 : ∀ c, Try.f85.body = some c → chkC Try.f85.ntmps an85 c = true := by intro c h; obtain rfl := Option.some.inj h; decide +kernel
theorem op85 {args : List PV} {v : PV} (h : X (cx85 Try.prog 0) x85 (argsA 0 args) [] (.fin [.cell 6 24] fun v1 s1 => deref s1 6 v1 = v)) (hl : args.length ≤ Try.f85.ntmps := by rw [Try.ntmps85]; simp) : CallOK Try.prog 85 args [] v [] :=
  callX (m := 0) (cx85 Try.prog 0) x85 rfl rfl (by kernel_rfl) Try.func85 rfl rfl hl mixed (chk85 _ rfl) (by rw [Try.results85]; exact h)
theorem os85 {args : List PV} {v : PV} (h : X (cx85 Try.prog 0) x85 (argsA 0 args) [] (.fin [.cell 6 24] fun v1 s1 => softV (deref s1 6 v1) = v)) (hl : args.length ≤ Try.f85.ntmps := by rw [Try.ntmps85]; simp) : CallOK Try.prog 85 args [] v [] :=
  callXF (m := 0) (cx85 Try.prog 0) x85 rfl rfl (by kernel_rfl) Try.func85 rfl rfl hl mixed (chk85 _ rfl) (by rw [Try.results85]; exact h)

theorem choose_between (fid : Nat) [EnT Try.prog fid] (ys : List PV) [hy : FlatL ys] (b : List ByteArray → Bool) (h : ∀ hs : List ByteArray, hs.length ≤ 6 → CallOK Try.prog fid (.list (hs.map strRow) :: ys) [] (.bool (b hs)) []) :
    ∀ (ns held : List ByteArray), ns.length + held.length ≤ 6 → CallOK Try.prog 85 [.list (ns.map strRow), .list (held.map strRow), .fn (.func fid) [] ys] [] (.agg (frm (chooseF b ns held))) []
  | [], held, hl => by
    have hv := h held (by simpa using hl)
    have hcl : ∀ v ∈ .list (held.map strRow) :: ys, Closed v := by
      intro v hv
      rcases List.mem_cons.1 hv with rfl | hv
      · exact closed_list _
      · exact hy.closed v hv
    have hk := constant_between (b held)
    rw [chooseF]
    generalize b held = x at *
    generalize constF x = F at *
    refine op85 ?_
    (((try simp (implicitDefEqProofs := false)); (try simp (implicitDefEqProofs := false) (disch := first | assumption | (try simp only [lens]); omega -splitDisjunctions))); all_goals try (repeat' ((first | ((with_reducible first | refine And.intro ?_ ?_ | refine Exists.intro ?_ ?_); first | omega | (simp <;> omega)) | (with_reducible refine spl (And.intro ?_ ?_) <;> intro _)) <;> ((try simp (implicitDefEqProofs := false)); (try simp (implicitDefEqProofs := false) (disch := first | assumption | (try simp only [lens]); omega -splitDisjunctions))))))
    refine CL.clo hv ?_ hcl
    (((try simp (implicitDefEqProofs := false)); (try simp (implicitDefEqProofs := false) (disch := first | assumption | (try simp only [lens]); omega -splitDisjunctions))); all_goals try (repeat' ((first | ((with_reducible first | refine And.intro ?_ ?_ | refine Exists.intro ?_ ?_); first | omega | (simp <;> omega)) | (with_reducible refine spl (And.intro ?_ ?_) <;> intro _) | (refine CL.clo (hk) ?_) | (refine CM.clo (hk) ?_) | (refine CD.clo (hk) ?_)) <;> ((try simp (implicitDefEqProofs := false)); (try simp (implicitDefEqProofs := false) (disch := first | assumption | (try simp only [lens]); omega -splitDisjunctions))))))
  | n :: r, held, hl => by
    have h1 := choose_between fid ys b h r (held ++ [n]) (by simp at hl ⊢; omega)
    have h2 := choose_between fid ys b h r held (by simp at hl ⊢; omega)
    have hc := Clip_strs held (by omega)
    have hhl : held.length ≤ 1000 := by omega
    rw [chooseF]
    simp only [List.map_append, List.map_cons, List.map_nil] at h1
    generalize chooseF b r (held ++ [n]) = x at *
    generalize chooseF b r held = y at *
    have hs := Same_formula x y
    have t1 := two_between 5 (.mk 1 n []) x
    have t2 := two_between 5 (.mk 4 ⟨#[]⟩ [.mk 1 n []]) y
    have t1 : CallOK Try.prog 76 [.int .i64 5, .agg [.int .i64 1, .str n, .nilsl], .agg (frm x)] [] (.agg (frm (.mk 5 ⟨#[]⟩ [.mk 1 n [], x]))) [] := callOK_soft t1 (.cons .refl (.cons (.agg (.cons .refl (.cons .refl (.cons .nil .nil)))) (.cons .refl .nil)))
    have t2 : CallOK Try.prog 76 [.int .i64 5, .agg [.int .i64 4, .str ⟨#[]⟩, .list [[.int .i64 1, .str n, .nilsl]]], .agg (frm y)] [] (.agg (frm (.mk 5 ⟨#[]⟩ [.mk 4 ⟨#[]⟩ [.mk 1 n []], y]))) [] := callOK_soft t2 (.cons .refl (.cons (.agg (.cons .refl (.cons .refl (.cons (.list (.cons (.cons .refl (.cons .refl (.cons .nil .nil))) .nil)) .nil)))) (.cons .refl .nil)))
    have t3 := two_between 6 (.mk 5 ⟨#[]⟩ [.mk 1 n [], x]) (.mk 5 ⟨#[]⟩ [.mk 4 ⟨#[]⟩ [.mk 1 n []], y])
    generalize sameB x y = e at *
    refine os85 ?_
    cases e
    · rw [if_neg (by simp)]
      (((try simp (implicitDefEqProofs := false)); (try simp (implicitDefEqProofs := false) (disch := first | assumption | (try simp only [lens]); omega -splitDisjunctions))); all_goals try (repeat' ((first | ((with_reducible first | refine And.intro ?_ ?_ | refine Exists.intro ?_ ?_); first | omega | (simp <;> omega)) | (with_reducible refine spl (And.intro ?_ ?_) <;> intro _) | (refine CL.clo (hc) ?_) | (refine CM.clo (hc) ?_) | (refine CD.clo (hc) ?_) | (refine CL.clo (h1) ?_) | (refine CM.clo (h1) ?_) | (refine CD.clo (h1) ?_) | (refine CL.clo (h2) ?_) | (refine CM.clo (h2) ?_) | (refine CD.clo (h2) ?_) | (refine CL.clo (hs) ?_) | (refine CM.clo (hs) ?_) | (refine CD.clo (hs) ?_) | (refine CL.clo (t1) ?_) | (refine CM.clo (t1) ?_) | (refine CD.clo (t1) ?_) | (refine CL.clo (t2) ?_) | (refine CM.clo (t2) ?_) | (refine CD.clo (t2) ?_) | (refine CL.clo (t3) ?_) | (refine CM.clo (t3) ?_) | (refine CD.clo (t3) ?_)) <;> ((try simp (implicitDefEqProofs := false)); (try simp (implicitDefEqProofs := false) (disch := first | assumption | (try simp only [lens]); omega -splitDisjunctions))))))
      all_goals trace_state
    · rw [if_pos rfl]
      (((try simp (implicitDefEqProofs := false)); (try simp (implicitDefEqProofs := false) (disch := first | assumption | (try simp only [lens]); omega -splitDisjunctions))); all_goals try (repeat' ((first | ((with_reducible first | refine And.intro ?_ ?_ | refine Exists.intro ?_ ?_); first | omega | (simp <;> omega)) | (with_reducible refine spl (And.intro ?_ ?_) <;> intro _) | (refine CL.clo (hc) ?_) | (refine CM.clo (hc) ?_) | (refine CD.clo (hc) ?_) | (refine CL.clo (h1) ?_) | (refine CM.clo (h1) ?_) | (refine CD.clo (h1) ?_) | (refine CL.clo (h2) ?_) | (refine CM.clo (h2) ?_) | (refine CD.clo (h2) ?_) | (refine CL.clo (hs) ?_) | (refine CM.clo (hs) ?_) | (refine CD.clo (hs) ?_)) <;> ((try simp (implicitDefEqProofs := false)); (try simp (implicitDefEqProofs := false) (disch := first | assumption | (try simp only [lens]); omega -splitDisjunctions))))))
      all_goals trace_state
end Go.Proofs.Ytnoklmapofogeaa
