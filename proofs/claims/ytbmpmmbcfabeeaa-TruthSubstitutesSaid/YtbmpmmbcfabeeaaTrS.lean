/-
  sequentlaw.TruthSubstitutes, told without memory.
-/
import Derived.Test.YtbmpmmbcfabeeaaTrK
import Derived.Test.YtbmpmmbcfabeeaaTrV
namespace Go.Proofs.Ytbmpmmbcfabeeaa
open Go Go.Pv
set_option linter.unusedVariables false
set_option linter.unusedSimpArgs false
set_option maxRecDepth 100000
set_option maxHeartbeats 4000000

theorem plainL_three {f a b : Fm} (h : (plainL [f, a, b]).1 = 0) : (plainF f).1 = 0 ∧ (plainF a).1 = 0 ∧ (plainF b).1 = 0 := by
  simp only [plainL] at h
  split at h
  · rename_i h1; exact absurd h h1
  · rename_i h1
    split at h
    · rename_i h2; exact absurd h h2
    · rename_i h2
      split at h
      · rename_i h3; exact absurd h h3
      · rename_i h3; exact ⟨by simpa using h1, by simpa using h2, by simpa using h3⟩
theorem pre_of2s (k : Int) (a b : Fm) : (pre (of2 k a b)).length = (pre a).length + (pre b).length + 1 := by rw [pre_eq]; simp [of2, pres_cons, pres_nil]
theorem both_s (k : Int) (a b : Fm) : CallOK Try.prog 36 [.int .i64 k, .agg (frm a), .agg (frm b)] [] (.agg (frm (of2 k a b))) [] := both_law k a b []
theorem tv_of2_7 {h : ByteArray → Bool} {a b : Fm} : tv h (of2 7 a b) = (!tv h a || tv h b) := tv_7
theorem tv_of2_5 {h : ByteArray → Bool} {a b : Fm} : tv h (of2 5 a b) = (tv h a && tv h b) := tv_5
/-- branches that join: what is left of the first is what is left of all -/
structure Hold (p : Prop) : Prop where
  h : p
theorem joinK {K g : Prop} (h : Hold K → g) (k : K) : g := h ⟨k⟩
def iffF (a b : Fm) : Fm := of2 5 (of2 7 a b) (of2 7 b a)
theorem tv_iffF {h : ByteArray → Bool} {a b : Fm} : tv h (iffF a b) = true ↔ tv h a = tv h b := by
  unfold iffF
  rw [tv_of2_5, tv_of2_7, tv_of2_7]
  cases tv h a <;> cases tv h b <;> simp
def x7 : XC := .seq (.reg [⟨some 4,.box 24 (.tmp 0),none⟩,⟨some 5,.box 24 (.tmp 1),none⟩,⟨some 6,.box 24 (.tmp 2),none⟩,⟨some 8,.assign (.const (.bool false)),none⟩]) (.seq (.seq (.reg [⟨some 21,.call ⟨.value (.func 28),#[],#[]⟩,none⟩,⟨some 22,.unOp .not 4 (.tmp 21),none⟩]) (.cond (.tmp 22) (.seq (.reg [⟨some 8,.assign (.const (.bool false)),none⟩]) (.ret)) (.skip))) (.seq (.seq (.reg [⟨some 23,.load 24 (.tmp 4),none⟩,⟨some 24,.call ⟨.value (.func 16),#[.tmp 23,.const (.int .i64 0)],#[24,3]⟩,none⟩,⟨some 25,.move (.tmp 24),none⟩,⟨some 26,.load 24 (.tmp 5),some (some 25,false)⟩,⟨some 27,.call ⟨.value (.func 16),#[.tmp 26,.const (.int .i64 0)],#[24,3]⟩,some (some 25,false)⟩,⟨some 28,.pick (.tmp 25) (.const (.bool true)) (.tmp 27),none⟩,⟨some 29,.move (.tmp 28),none⟩,⟨some 30,.load 24 (.tmp 6),some (some 29,false)⟩,⟨some 31,.call ⟨.value (.func 16),#[.tmp 30,.const (.int .i64 0)],#[24,3]⟩,some (some 29,false)⟩,⟨some 32,.pick (.tmp 29) (.const (.bool true)) (.tmp 31),none⟩,⟨some 33,.move (.tmp 32),none⟩,⟨some 34,.load 24 (.tmp 4),some (some 33,false)⟩,⟨some 35,.load 24 (.tmp 5),some (some 33,false)⟩,⟨some 36,.load 24 (.tmp 6),some (some 33,false)⟩,⟨some 37,.buildSlice 22 3 #[(0,.tmp 34),(1,.tmp 35),(2,.tmp 36)],some (some 33,false)⟩,⟨some 38,.call ⟨.value (.func 31),#[.tmp 37],#[22]⟩,some (some 33,false)⟩,⟨some 39,.field 29 (.tmp 38) 0,some (some 33,false)⟩,⟨some 40,.binOp .neq 3 (.tmp 39) (.const (.int .i64 0)) 3,some (some 33,false)⟩,⟨some 41,.pick (.tmp 33) (.const (.bool true)) (.tmp 40),none⟩,⟨some 42,.move (.tmp 41),none⟩,⟨some 43,.move (.tmp 3),some (some 42,false)⟩,⟨some 44,.call ⟨.value (.func 32),#[.tmp 43],#[9]⟩,some (some 42,false)⟩,⟨some 45,.unOp .not 4 (.tmp 44),some (some 42,false)⟩,⟨some 46,.pick (.tmp 42) (.const (.bool true)) (.tmp 45),none⟩]) (.cond (.tmp 46) (.seq (.reg [⟨some 8,.assign (.const (.bool true)),none⟩]) (.ret)) (.skip))) (.seq (.drawn 5 [⟨some 47,.load 24 (.tmp 4),none⟩,⟨some 48,.move (.tmp 3),none⟩,⟨some 49,.load 24 (.tmp 5),none⟩,⟨some 50,.call ⟨.value (.func 33),#[.tmp 47,.tmp 48,.tmp 49],#[24,9,24]⟩,none⟩,⟨some 51,.load 24 (.tmp 4),none⟩,⟨some 52,.move (.tmp 3),none⟩,⟨some 53,.load 24 (.tmp 6),none⟩,⟨some 54,.call ⟨.value (.func 33),#[.tmp 51,.tmp 52,.tmp 53],#[24,9,24]⟩,none⟩,⟨some 9,.alloc 24,none⟩,⟨some 10,.alloc 24,none⟩,⟨none,.store 24 (.tmp 9) (.tmp 50),none⟩,⟨none,.store 24 (.tmp 10) (.tmp 54),none⟩]) (.seq (.seq (.reg [⟨some 55,.load 24 (.tmp 9),none⟩,⟨some 56,.call ⟨.value (.func 34),#[.tmp 55,.const (.int .i64 80)],#[24,3]⟩,none⟩,⟨some 57,.call ⟨.builtin .len,#[.tmp 56],#[22]⟩,none⟩,⟨some 58,.binOp .gtr 3 (.tmp 57) (.const (.int .i64 60)) 3,none⟩,⟨some 59,.move (.tmp 58),none⟩,⟨some 60,.load 24 (.tmp 10),some (some 59,false)⟩,⟨some 61,.call ⟨.value (.func 34),#[.tmp 60,.const (.int .i64 80)],#[24,3]⟩,some (some 59,false)⟩,⟨some 62,.call ⟨.builtin .len,#[.tmp 61],#[22]⟩,some (some 59,false)⟩,⟨some 63,.binOp .gtr 3 (.tmp 62) (.const (.int .i64 60)) 3,some (some 59,false)⟩,⟨some 64,.pick (.tmp 59) (.const (.bool true)) (.tmp 63),none⟩]) (.cond (.tmp 64) (.seq (.reg [⟨some 8,.assign (.const (.bool true)),none⟩]) (.ret)) (.skip))) (.seq (.reg [⟨some 66,.load 24 (.tmp 4),none⟩,⟨some 67,.call ⟨.value (.func 35),#[.tmp 66],#[24]⟩,none⟩,⟨some 65,.move (.tmp 67),none⟩,⟨some 68,.extract (.tmp 65) 0,none⟩,⟨some 69,.extract (.tmp 65) 1,none⟩,⟨some 70,.extract (.tmp 65) 2,none⟩,⟨some 13,.alloc 29,none⟩,⟨some 11,.assign (.tmp 68),none⟩,⟨some 12,.assign (.tmp 69),none⟩,⟨none,.store 29 (.tmp 13) (.tmp 70),none⟩]) (.seq (.reg [⟨some 72,.load 24 (.tmp 9),none⟩,⟨some 73,.call ⟨.value (.func 35),#[.tmp 72],#[24]⟩,none⟩,⟨some 71,.move (.tmp 73),none⟩,⟨some 74,.extract (.tmp 71) 0,none⟩,⟨some 75,.extract (.tmp 71) 1,none⟩,⟨some 76,.extract (.tmp 71) 2,none⟩,⟨some 16,.alloc 29,none⟩,⟨some 14,.assign (.tmp 74),none⟩,⟨some 15,.assign (.tmp 75),none⟩,⟨none,.store 29 (.tmp 16) (.tmp 76),none⟩]) (.seq (.seq (.reg [⟨some 77,.fieldAddr 29 (.tmp 13) 0,none⟩,⟨some 78,.load 3 (.tmp 77),none⟩,⟨some 79,.binOp .eql 3 (.tmp 78) (.const (.int .i64 0)) 3,none⟩,⟨some 80,.move (.tmp 79),none⟩,⟨some 81,.fieldAddr 29 (.tmp 16) 0,some (some 80,true)⟩,⟨some 82,.load 3 (.tmp 81),some (some 80,true)⟩,⟨some 83,.binOp .eql 3 (.tmp 82) (.const (.int .i64 0)) 3,some (some 80,true)⟩,⟨some 84,.pick (.tmp 80) (.tmp 83) (.const (.bool false)),none⟩,⟨some 85,.move (.tmp 84),none⟩,⟨some 86,.move (.tmp 11),some (some 85,true)⟩,⟨some 87,.pick (.tmp 85) (.tmp 86) (.const (.bool false)),none⟩,⟨some 88,.move (.tmp 87),none⟩,⟨some 89,.move (.tmp 14),some (some 88,true)⟩,⟨some 90,.unOp .not 4 (.tmp 89),some (some 88,true)⟩,⟨some 91,.pick (.tmp 88) (.tmp 90) (.const (.bool false)),none⟩]) (.cond (.tmp 91) (.seq (.reg [⟨some 8,.assign (.const (.bool false)),none⟩]) (.ret)) (.skip))) (.seq (.drawn 12 [⟨some 93,.load 24 (.tmp 5),none⟩,⟨some 94,.load 24 (.tmp 6),none⟩,⟨some 95,.call ⟨.value (.func 36),#[.const (.int .i64 7),.tmp 93,.tmp 94],#[3,24,24]⟩,none⟩,⟨some 96,.load 24 (.tmp 6),none⟩,⟨some 97,.load 24 (.tmp 5),none⟩,⟨some 98,.call ⟨.value (.func 36),#[.const (.int .i64 7),.tmp 96,.tmp 97],#[3,24,24]⟩,none⟩,⟨some 99,.call ⟨.value (.func 36),#[.const (.int .i64 5),.tmp 95,.tmp 98],#[3,24,24]⟩,none⟩,⟨some 100,.call ⟨.value (.func 35),#[.tmp 99],#[24]⟩,none⟩,⟨some 92,.move (.tmp 100),none⟩,⟨some 101,.extract (.tmp 92) 0,none⟩,⟨some 102,.extract (.tmp 92) 1,none⟩,⟨some 103,.extract (.tmp 92) 2,none⟩,⟨some 17,.assign (.tmp 101),none⟩,⟨some 18,.assign (.tmp 102),none⟩,⟨none,.store 29 (.tmp 13) (.tmp 103),none⟩]) (.seq (.drawn 13 [⟨some 105,.load 24 (.tmp 9),none⟩,⟨some 106,.load 24 (.tmp 10),none⟩,⟨some 107,.call ⟨.value (.func 36),#[.const (.int .i64 7),.tmp 105,.tmp 106],#[3,24,24]⟩,none⟩,⟨some 108,.load 24 (.tmp 10),none⟩,⟨some 109,.load 24 (.tmp 9),none⟩,⟨some 110,.call ⟨.value (.func 36),#[.const (.int .i64 7),.tmp 108,.tmp 109],#[3,24,24]⟩,none⟩,⟨some 111,.call ⟨.value (.func 36),#[.const (.int .i64 5),.tmp 107,.tmp 110],#[3,24,24]⟩,none⟩,⟨some 112,.call ⟨.value (.func 35),#[.tmp 111],#[24]⟩,none⟩,⟨some 104,.move (.tmp 112),none⟩,⟨some 113,.extract (.tmp 104) 0,none⟩,⟨some 114,.extract (.tmp 104) 1,none⟩,⟨some 115,.extract (.tmp 104) 2,none⟩,⟨some 19,.assign (.tmp 113),none⟩,⟨some 20,.assign (.tmp 114),none⟩,⟨none,.store 29 (.tmp 16) (.tmp 115),none⟩]) (.seq (.reg [⟨some 116,.fieldAddr 29 (.tmp 13) 0,none⟩,⟨some 117,.load 3 (.tmp 116),none⟩,⟨some 118,.binOp .neq 3 (.tmp 117) (.const (.int .i64 0)) 3,none⟩,⟨some 119,.move (.tmp 118),none⟩,⟨some 120,.fieldAddr 29 (.tmp 16) 0,some (some 119,false)⟩,⟨some 121,.load 3 (.tmp 120),some (some 119,false)⟩,⟨some 122,.binOp .neq 3 (.tmp 121) (.const (.int .i64 0)) 3,some (some 119,false)⟩,⟨some 123,.pick (.tmp 119) (.const (.bool true)) (.tmp 122),none⟩,⟨some 124,.move (.tmp 123),none⟩,⟨some 125,.move (.tmp 17),some (some 124,false)⟩,⟨some 126,.unOp .not 4 (.tmp 125),some (some 124,false)⟩,⟨some 127,.pick (.tmp 124) (.const (.bool true)) (.tmp 126),none⟩,⟨some 128,.move (.tmp 127),none⟩,⟨some 129,.move (.tmp 19),some (some 128,false)⟩,⟨some 130,.pick (.tmp 128) (.const (.bool true)) (.tmp 129),none⟩,⟨some 8,.assign (.tmp 130),none⟩]) (.ret)))))))))))
@[simp] theorem x7_s {C : WC} {e : AE} {s : Store} {K : KS} : type_of% (@X_at C e s K _ _ x7.eq_1) := X_at x7.eq_1
def an7 : Ann := ⟨[(5, .tree (.op 0 (.op 1 (.op 2 (.op 4 (.op 5 (.op 6 (.br (.op 3 (.ck 4 (.ck 6 (.br (.op 7 (.br (.op 8 (.op 9 (.op 10 (.op 11 .fin)))) (.op 9 (.op 8 (.op 10 (.op 11 .fin)))))) (.br (.op 8 (.ck 4 (.ck 6 (.br (.op 7 (.op 9 (.op 10 (.op 11 .fin)))) (.op 9 (.ck 4 (.ck 6 (.op 7 (.op 10 (.op 11 .fin)))))))))) (.op 9 (.ck 4 (.ck 6 (.br (.op 7 (.op 8 (.op 10 (.op 11 .fin)))) (.op 8 (.ck 4 (.ck 6 (.op 7 (.op 10 (.op 11 .fin))))))))))))))) (.br (.op 8 (.ck 0 (.ck 2 (.ck 4 (.ck 6 (.br (.op 3 (.ck 4 (.ck 6 (.br (.op 7 (.op 9 (.op 10 (.op 11 .fin)))) (.op 9 (.ck 4 (.ck 6 (.op 7 (.op 10 (.op 11 .fin)))))))))) (.op 9 (.ck 0 (.ck 2 (.ck 4 (.ck 6 (.op 3 (.ck 4 (.ck 6 (.op 7 (.op 10 (.op 11 .fin))))))))))))))))) (.op 9 (.ck 0 (.ck 2 (.ck 4 (.ck 6 (.br (.op 3 (.ck 4 (.ck 6 (.br (.op 7 (.op 8 (.op 10 (.op 11 .fin)))) (.op 8 (.ck 4 (.ck 6 (.op 7 (.op 10 (.op 11 .fin)))))))))) (.op 8 (.ck 0 (.ck 2 (.ck 4 (.ck 6 (.op 3 (.ck 4 (.ck 6 (.op 7 (.op 10 (.op 11 .fin)))))))))))))))))))))))))), (12, .mix 14), (13, .mix 14)], [], []⟩
def cx7 (P : Program) (m : Nat) : WC := ⟨P, m, an7⟩
@[simp] theorem cx7_a {P : Program} {m : Nat} : (cx7 P m).P = P ∧ (cx7 P m).m = m ∧ (cx7 P m).A.clsOf 5 = .tree (.op 0 (.op 1 (.op 2 (.op 4 (.op 5 (.op 6 (.br (.op 3 (.ck 4 (.ck 6 (.br (.op 7 (.br (.op 8 (.op 9 (.op 10 (.op 11 .fin)))) (.op 9 (.op 8 (.op 10 (.op 11 .fin)))))) (.br (.op 8 (.ck 4 (.ck 6 (.br (.op 7 (.op 9 (.op 10 (.op 11 .fin)))) (.op 9 (.ck 4 (.ck 6 (.op 7 (.op 10 (.op 11 .fin)))))))))) (.op 9 (.ck 4 (.ck 6 (.br (.op 7 (.op 8 (.op 10 (.op 11 .fin)))) (.op 8 (.ck 4 (.ck 6 (.op 7 (.op 10 (.op 11 .fin))))))))))))))) (.br (.op 8 (.ck 0 (.ck 2 (.ck 4 (.ck 6 (.br (.op 3 (.ck 4 (.ck 6 (.br (.op 7 (.op 9 (.op 10 (.op 11 .fin)))) (.op 9 (.ck 4 (.ck 6 (.op 7 (.op 10 (.op 11 .fin)))))))))) (.op 9 (.ck 0 (.ck 2 (.ck 4 (.ck 6 (.op 3 (.ck 4 (.ck 6 (.op 7 (.op 10 (.op 11 .fin))))))))))))))))) (.op 9 (.ck 0 (.ck 2 (.ck 4 (.ck 6 (.br (.op 3 (.ck 4 (.ck 6 (.br (.op 7 (.op 8 (.op 10 (.op 11 .fin)))) (.op 8 (.ck 4 (.ck 6 (.op 7 (.op 10 (.op 11 .fin)))))))))) (.op 8 (.ck 0 (.ck 2 (.ck 4 (.ck 6 (.op 3 (.ck 4 (.ck 6 (.op 7 (.op 10 (.op 11 .fin))))))))))))))))))))))))) ∧ (cx7 P m).A.clsOf 12 = .mix 14 ∧ (cx7 P m).A.clsOf 13 = .mix 14 ∧ (cx7 P m).A.frzOf 5 = [] ∧ (cx7 P m).A.frzOf 12 = [] ∧ (cx7 P m).A.frzOf 13 = [] := ⟨rfl, rfl, rfl, rfl, rfl, rfl, rfl, rfl⟩
instance {P : Program} {m f : Nat} [h : EnT P f] : EnT (cx7 P m).P f := h
theorem chk7 : ∀ c, Try.f7.body = some c → chkC Try.f7.ntmps an7 c = true := by intro c h; obtain rfl := Option.some.inj h; decide +kernel
theorem op7 {args : List PV} {v : PV} (h : X (cx7 Try.prog 0) x7 (argsA 0 args) [] (.fin [.tmp 8] fun v1 s1 => deref s1 6 v1 = v)) (hl : args.length ≤ Try.f7.ntmps := by rw [Try.ntmps7]; simp) : CallOK Try.prog 7 args [] v [] :=
  callX (m := 0) (cx7 Try.prog 0) x7 rfl rfl (by kernel_rfl) Try.func7 rfl rfl hl mixed (chk7 _ rfl) (by rw [Try.results7]; exact h)

theorem truthSubstitutes_law (f a b : Fm) (nm : ByteArray) : CallOK Try.prog 7 [.agg (frm f), .agg (frm a), .agg (frm b), .str nm] [] (.bool true) [] := by
  have hbg := truthBegun_law
  have vf := vast_ref f 0 (by omega) (by omega) []
  have va := vast_ref a 0 (by omega) (by omega) []
  have vb := vast_ref b 0 (by omega) (by omega) []
  have hpf := PlainFault_ref [f, a, b] (by simp)
  simp only [List.map_cons, List.map_nil] at hpf
  have hin := IsName_ref nm
  refine op7 ?_
  generalize vastB f 0 = v1 at *
  generalize vastB a 0 = v2 at *
  generalize vastB b 0 = v3 at *
  cases v1 with
  | true => (((try simp (implicitDefEqProofs := false)); (try simp (implicitDefEqProofs := false) (disch := first | assumption | (try simp only [lens]); omega -splitDisjunctions))); all_goals try (repeat' ((first | ((with_reducible first | refine And.intro ?_ ?_ | refine Exists.intro ?_ ?_); first | omega | (simp <;> omega)) | (with_reducible refine spl (And.intro ?_ ?_) <;> intro _) | (refine CL.clo (hbg) ?_) | (refine CM.clo (hbg) ?_) | (refine CD.clo (hbg) ?_) | (refine CL.clo (vf) ?_) | (refine CM.clo (vf) ?_) | (refine CD.clo (vf) ?_)) <;> ((try simp (implicitDefEqProofs := false)); (try simp (implicitDefEqProofs := false) (disch := first | assumption | (try simp only [lens]); omega -splitDisjunctions))))))
  | false =>
  cases v2 with
  | true => (((try simp (implicitDefEqProofs := false)); (try simp (implicitDefEqProofs := false) (disch := first | assumption | (try simp only [lens]); omega -splitDisjunctions))); all_goals try (repeat' ((first | ((with_reducible first | refine And.intro ?_ ?_ | refine Exists.intro ?_ ?_); first | omega | (simp <;> omega)) | (with_reducible refine spl (And.intro ?_ ?_) <;> intro _) | (refine CL.clo (hbg) ?_) | (refine CM.clo (hbg) ?_) | (refine CD.clo (hbg) ?_) | (refine CL.clo (vf) ?_) | (refine CM.clo (vf) ?_) | (refine CD.clo (vf) ?_) | (refine CL.clo (va) ?_) | (refine CM.clo (va) ?_) | (refine CD.clo (va) ?_)) <;> ((try simp (implicitDefEqProofs := false)); (try simp (implicitDefEqProofs := false) (disch := first | assumption | (try simp only [lens]); omega -splitDisjunctions))))))
  | false =>
  cases v3 with
  | true => (((try simp (implicitDefEqProofs := false)); (try simp (implicitDefEqProofs := false) (disch := first | assumption | (try simp only [lens]); omega -splitDisjunctions))); all_goals try (repeat' ((first | ((with_reducible first | refine And.intro ?_ ?_ | refine Exists.intro ?_ ?_); first | omega | (simp <;> omega)) | (with_reducible refine spl (And.intro ?_ ?_) <;> intro _) | (refine CL.clo (hbg) ?_) | (refine CM.clo (hbg) ?_) | (refine CD.clo (hbg) ?_) | (refine CL.clo (vf) ?_) | (refine CM.clo (vf) ?_) | (refine CD.clo (vf) ?_) | (refine CL.clo (va) ?_) | (refine CM.clo (va) ?_) | (refine CD.clo (va) ?_) | (refine CL.clo (vb) ?_) | (refine CM.clo (vb) ?_) | (refine CD.clo (vb) ?_)) <;> ((try simp (implicitDefEqProofs := false)); (try simp (implicitDefEqProofs := false) (disch := first | assumption | (try simp only [lens]); omega -splitDisjunctions))))))
  | false =>
  by_cases h1 : (plainL [f, a, b]).1 = 0
  · obtain ⟨p1, p2, p3⟩ := plainL_three h1
    generalize plainL [f, a, b] = w at *
    generalize isNameB nm = bn at *
    cases bn with
    | false =>
      (((try simp (implicitDefEqProofs := false)); (try simp (implicitDefEqProofs := false) (disch := first | assumption | (try simp only [lens]); omega -splitDisjunctions))); all_goals try (repeat' ((first | ((with_reducible first | refine And.intro ?_ ?_ | refine Exists.intro ?_ ?_); first | omega | (simp <;> omega)) | (with_reducible refine spl (And.intro ?_ ?_) <;> intro _) | (refine CL.clo (hbg) ?_) | (refine CM.clo (hbg) ?_) | (refine CD.clo (hbg) ?_) | (refine CL.clo (vf) ?_) | (refine CM.clo (vf) ?_) | (refine CD.clo (vf) ?_) | (refine CL.clo (va) ?_) | (refine CM.clo (va) ?_) | (refine CD.clo (va) ?_) | (refine CL.clo (vb) ?_) | (refine CM.clo (vb) ?_) | (refine CD.clo (vb) ?_)) <;> ((try simp (implicitDefEqProofs := false)); (try simp (implicitDefEqProofs := false) (disch := first | assumption | (try simp only [lens]); omega -splitDisjunctions))))))
      refine CL.giv [3] ?_
      (((try simp (implicitDefEqProofs := false) [h1]); (try simp (implicitDefEqProofs := false) (disch := first | assumption | (try simp only [lens]); omega -splitDisjunctions) [h1])); all_goals try (repeat' ((first | ((with_reducible first | refine And.intro ?_ ?_ | refine Exists.intro ?_ ?_); first | omega | (simp <;> omega)) | (with_reducible refine spl (And.intro ?_ ?_) <;> intro _) | (refine CL.clo (hpf) ?_) | (refine CM.clo (hpf) ?_) | (refine CD.clo (hpf) ?_) | (refine CL.clo (hin) ?_) | (refine CM.clo (hin) ?_) | (refine CD.clo (hin) ?_)) <;> ((try simp (implicitDefEqProofs := false) [h1]); (try simp (implicitDefEqProofs := false) (disch := first | assumption | (try simp only [lens]); omega -splitDisjunctions) [h1])))))
    | true =>
      have l1 := (plainF_iff f).1 p1
      have w1 := With_ref nm a f l1.1.1.ok
      have w2 := With_ref nm b f l1.1.1.ok
      have t1 := fun h => tv_with nm a h f l1.1
      have t2 := fun h => tv_with nm b h f l1.1
      generalize withF nm a f = x at *
      generalize withF nm b f = y at *
      have k1 := walk_ref x 80 (by decide) (by decide) []
      have k2 := walk_ref y 80 (by decide) (by decide) []
      generalize walkL x 80 = K1 at *
      generalize walkL y 80 = K2 at *
      (((try simp (implicitDefEqProofs := false)); (try simp (implicitDefEqProofs := false) (disch := first | assumption | (try simp only [lens]); omega -splitDisjunctions))); all_goals try (repeat' ((first | ((with_reducible first | refine And.intro ?_ ?_ | refine Exists.intro ?_ ?_); first | omega | (simp <;> omega)) | (with_reducible refine spl (And.intro ?_ ?_) <;> intro _) | (refine CL.clo (hbg) ?_) | (refine CM.clo (hbg) ?_) | (refine CD.clo (hbg) ?_) | (refine CL.clo (vf) ?_) | (refine CM.clo (vf) ?_) | (refine CD.clo (vf) ?_) | (refine CL.clo (va) ?_) | (refine CM.clo (va) ?_) | (refine CD.clo (va) ?_) | (refine CL.clo (vb) ?_) | (refine CM.clo (vb) ?_) | (refine CD.clo (vb) ?_)) <;> ((try simp (implicitDefEqProofs := false)); (try simp (implicitDefEqProofs := false) (disch := first | assumption | (try simp only [lens]); omega -splitDisjunctions))))))
      refine CL.giv [3] ?_
      (((try simp (implicitDefEqProofs := false) [h1]); (try simp (implicitDefEqProofs := false) (disch := first | assumption | (try simp only [lens]); omega -splitDisjunctions) [h1])); all_goals try (repeat' ((first | ((with_reducible first | refine And.intro ?_ ?_ | refine Exists.intro ?_ ?_); first | omega | (simp <;> omega)) | (with_reducible refine spl (And.intro ?_ ?_) <;> intro _) | (refine CL.clo (hpf) ?_) | (refine CM.clo (hpf) ?_) | (refine CD.clo (hpf) ?_) | (refine CL.clo (hin) ?_) | (refine CM.clo (hin) ?_) | (refine CD.clo (hin) ?_)) <;> ((try simp (implicitDefEqProofs := false) [h1]); (try simp (implicitDefEqProofs := false) (disch := first | assumption | (try simp only [lens]); omega -splitDisjunctions) [h1])))))
      refine joinK (K := ?K) ?_ ?_
      rotate_left 1
      · intro key
        repeat' (first | (refine And.intro ?_ ?_) | (refine CT.clo w1 ?_; (((try simp (implicitDefEqProofs := false)); (try simp (implicitDefEqProofs := false) (disch := first | assumption | (try simp only [lens]); omega -splitDisjunctions))); all_goals try (repeat' ((first | ((with_reducible first | refine And.intro ?_ ?_ | refine Exists.intro ?_ ?_); first | omega | (simp <;> omega)) | (with_reducible refine spl (And.intro ?_ ?_) <;> intro _)) <;> ((try simp (implicitDefEqProofs := false)); (try simp (implicitDefEqProofs := false) (disch := first | assumption | (try simp only [lens]); omega -splitDisjunctions))))))) | (refine CT.clo w2 ?_; (((try simp (implicitDefEqProofs := false)); (try simp (implicitDefEqProofs := false) (disch := first | assumption | (try simp only [lens]); omega -splitDisjunctions))); all_goals try (repeat' ((first | ((with_reducible first | refine And.intro ?_ ?_ | refine Exists.intro ?_ ?_); first | omega | (simp <;> omega)) | (with_reducible refine spl (And.intro ?_ ?_) <;> intro _)) <;> ((try simp (implicitDefEqProofs := false)); (try simp (implicitDefEqProofs := false) (disch := first | assumption | (try simp only [lens]); omega -splitDisjunctions))))))))
        all_goals refine CL.gc [] [] [3, 4, 5, 6, 8, 9, 10, 55] ?_
        all_goals ((((try simp (implicitDefEqProofs := false)); (try simp (implicitDefEqProofs := false) (disch := first | assumption | (try simp only [lens]); omega -splitDisjunctions))); all_goals try (repeat' ((first | ((with_reducible first | refine And.intro ?_ ?_ | refine Exists.intro ?_ ?_); first | omega | (simp <;> omega)) | (with_reducible refine spl (And.intro ?_ ?_) <;> intro _)) <;> ((try simp (implicitDefEqProofs := false)); (try simp (implicitDefEqProofs := false) (disch := first | assumption | (try simp only [lens]); omega -splitDisjunctions)))))))
        all_goals exact key.h
      have L1 : (fewV f).2.1 = 0 → (fewV x).2.1 = 0 → (validV f).1 = true → (validV x).1 = true := fun e1 e2 h => by
        rw [valid_iff e2]
        intro g
        rw [t1, (valid_iff e1).1 h]
      have L2 : (fewV (iffF a b)).2.1 = 0 → (fewV (iffF x y)).2.1 = 0 → (validV (iffF a b)).1 = true → (validV (iffF x y)).1 = true := fun e1 e2 h => by
        rw [valid_iff e2]
        intro g
        rw [tv_iffF, t1, t2, tv_iffF.1 ((valid_iff e1).1 h g)]
      have v1 := Valid_truth f
      have v2 := Valid_truth x
      have v3 := Valid_truth (iffF a b)
      have v4 := Valid_truth (iffF x y)
      have o1 := both_s 7 a b
      have o2 := both_s 7 b a
      have o3 : CallOK Try.prog 36 [.int .i64 5, .agg (frm (of2 7 a b)), .agg (frm (of2 7 b a))] [] (.agg (frm (iffF a b))) [] := both_s 5 _ _
      have o4 := both_s 7 x y
      have o5 := both_s 7 y x
      have o6 : CallOK Try.prog 36 [.int .i64 5, .agg (frm (of2 7 x y)), .agg (frm (of2 7 y x))] [] (.agg (frm (iffF x y))) [] := both_s 5 _ _
      generalize of2 7 a b = z1 at *
      generalize of2 7 b a = z2 at *
      generalize of2 7 x y = z3 at *
      generalize of2 7 y x = z4 at *
      generalize iffF a b = z5 at *
      generalize iffF x y = z6 at *
      clear t1 t2 l1 p1 p2 p3 hpf hin vf va vb hbg w1 w2 h1
      generalize (validV f).2 = c1 at *
      generalize (validV x).2 = c2 at *
      generalize (validV z5).2 = c3 at *
      generalize (validV z6).2 = c4 at *
      generalize fewV f = e1 at *
      generalize fewV x = e2 at *
      generalize fewV z5 = e3 at *
      generalize fewV z6 = e4 at *
      generalize (validV f).1 = u1 at *
      generalize (validV x).1 = u2 at *
      generalize (validV z5).1 = u3 at *
      generalize (validV z6).1 = u4 at *
      have D1 : (¬ e1.2.1 = 0) ∨ (e1.2.1 = 0 ∧ ¬ e2.2.1 = 0) ∨ (e1.2.1 = 0 ∧ e2.2.1 = 0 ∧ u1 = false) ∨ (e1.2.1 = 0 ∧ e2.2.1 = 0 ∧ u1 = true ∧ u2 = true) := by
        by_cases q1 : e1.2.1 = 0
        · by_cases q2 : e2.2.1 = 0
          · cases u1 with
            | false => exact .inr (.inr (.inl ⟨q1, q2, rfl⟩))
            | true => exact .inr (.inr (.inr ⟨q1, q2, rfl, L1 q1 q2 rfl⟩))
          · exact .inr (.inl ⟨q1, q2⟩)
        · exact .inl q1
      have D2 : (¬ e3.2.1 = 0) ∨ (e3.2.1 = 0 ∧ ¬ e4.2.1 = 0) ∨ (e3.2.1 = 0 ∧ e4.2.1 = 0 ∧ u3 = false) ∨ (e3.2.1 = 0 ∧ e4.2.1 = 0 ∧ u3 = true ∧ u4 = true) := by
        by_cases q1 : e3.2.1 = 0
        · by_cases q2 : e4.2.1 = 0
          · cases u3 with
            | false => exact .inr (.inr (.inl ⟨q1, q2, rfl⟩))
            | true => exact .inr (.inr (.inr ⟨q1, q2, rfl, L2 q1 q2 rfl⟩))
          · exact .inr (.inl ⟨q1, q2⟩)
        · exact .inl q1
      clear L1 L2
      obtain ⟨e10, e11, e12⟩ := e1
      obtain ⟨e20, e21, e22⟩ := e2
      obtain ⟨e30, e31, e32⟩ := e3
      obtain ⟨e40, e41, e42⟩ := e4
      dsimp only at *
      by_cases g1 : 60 < K1.length
      · have g1i : (60 : Int) < (K1.length : Int) := by omega
        (((try simp (implicitDefEqProofs := false) [g1i]); (try simp (implicitDefEqProofs := false) (disch := first | assumption | (try simp only [lens]); omega -splitDisjunctions) [g1i])); all_goals try (repeat' ((first | ((with_reducible first | refine And.intro ?_ ?_ | refine Exists.intro ?_ ?_); first | omega | (simp <;> omega)) | (with_reducible refine spl (And.intro ?_ ?_) <;> intro _) | (refine CL.clo (k1) ?_) | (refine CM.clo (k1) ?_) | (refine CD.clo (k1) ?_)) <;> ((try simp (implicitDefEqProofs := false) [g1i]); (try simp (implicitDefEqProofs := false) (disch := first | assumption | (try simp only [lens]); omega -splitDisjunctions) [g1i])))))
      · have g1i : ¬ (60 : Int) < (K1.length : Int) := by omega
        by_cases g2 : 60 < K2.length
        · have g2i : (60 : Int) < (K2.length : Int) := by omega
          (((try simp (implicitDefEqProofs := false) [g1i, g2i]); (try simp (implicitDefEqProofs := false) (disch := first | assumption | (try simp only [lens]); omega -splitDisjunctions) [g1i, g2i])); all_goals try (repeat' ((first | ((with_reducible first | refine And.intro ?_ ?_ | refine Exists.intro ?_ ?_); first | omega | (simp <;> omega)) | (with_reducible refine spl (And.intro ?_ ?_) <;> intro _) | (refine CL.clo (k1) ?_) | (refine CM.clo (k1) ?_) | (refine CD.clo (k1) ?_) | (refine CL.clo (k2) ?_) | (refine CM.clo (k2) ?_) | (refine CD.clo (k2) ?_)) <;> ((try simp (implicitDefEqProofs := false) [g1i, g2i]); (try simp (implicitDefEqProofs := false) (disch := first | assumption | (try simp only [lens]); omega -splitDisjunctions) [g1i, g2i])))))
        · have g2i : ¬ (60 : Int) < (K2.length : Int) := by omega
          have D1' : (¬ e11 = 0 ∧ ¬ e11 = 0) ∨ (e11 = 0 ∧ ¬ e21 = 0) ∨ (e11 = 0 ∧ e21 = 0 ∧ u1 = false) ∨ (e11 = 0 ∧ e21 = 0 ∧ u1 = true ∧ u2 = true) := by
            rcases D1 with h | h
            · exact .inl ⟨h, h⟩
            · exact .inr h
          have D2' : (¬ e31 = 0 ∧ ¬ e31 = 0) ∨ (e31 = 0 ∧ ¬ e41 = 0) ∨ (e31 = 0 ∧ e41 = 0 ∧ u3 = false) ∨ (e31 = 0 ∧ e41 = 0 ∧ u3 = true ∧ u4 = true) := by
            rcases D2 with h | h
            · exact .inl ⟨h, h⟩
            · exact .inr h
          clear D1 D2
          rcases D1' with ⟨d1, d2⟩ | ⟨d1, d2⟩ | ⟨d1, d2, rfl⟩ | ⟨d1, d2, rfl, rfl⟩
          all_goals rcases D2' with ⟨d3, d4⟩ | ⟨d3, d4⟩ | ⟨d3, d4, rfl⟩ | ⟨d3, d4, rfl, rfl⟩
          all_goals ((((try simp (implicitDefEqProofs := false) [g1i, g2i, d1, d2, d3, d4]); (try simp (implicitDefEqProofs := false) (disch := first | assumption | (try simp only [lens]); omega -splitDisjunctions) [g1i, g2i, d1, d2, d3, d4])); all_goals try (repeat' ((first | ((with_reducible first | refine And.intro ?_ ?_ | refine Exists.intro ?_ ?_); first | omega | (simp <;> omega)) | (with_reducible refine spl (And.intro ?_ ?_) <;> intro _) | (refine CL.clo (k1) ?_) | (refine CM.clo (k1) ?_) | (refine CD.clo (k1) ?_) | (refine CL.clo (k2) ?_) | (refine CM.clo (k2) ?_) | (refine CD.clo (k2) ?_) | (refine CL.clo (v1) ?_) | (refine CM.clo (v1) ?_) | (refine CD.clo (v1) ?_) | (refine CL.clo (v2) ?_) | (refine CM.clo (v2) ?_) | (refine CD.clo (v2) ?_) | (refine CL.clo (o1) ?_) | (refine CM.clo (o1) ?_) | (refine CD.clo (o1) ?_) | (refine CL.clo (o2) ?_) | (refine CM.clo (o2) ?_) | (refine CD.clo (o2) ?_) | (refine CL.clo (o3) ?_) | (refine CM.clo (o3) ?_) | (refine CD.clo (o3) ?_) | (refine CL.clo (v3) ?_) | (refine CM.clo (v3) ?_) | (refine CD.clo (v3) ?_) | (refine CL.clo (o4) ?_) | (refine CM.clo (o4) ?_) | (refine CD.clo (o4) ?_) | (refine CL.clo (o5) ?_) | (refine CM.clo (o5) ?_) | (refine CD.clo (o5) ?_) | (refine CL.clo (o6) ?_) | (refine CM.clo (o6) ?_) | (refine CD.clo (o6) ?_) | (refine CL.clo (v4) ?_) | (refine CM.clo (v4) ?_) | (refine CD.clo (v4) ?_)) <;> ((try simp (implicitDefEqProofs := false) [g1i, g2i, d1, d2, d3, d4]); (try simp (implicitDefEqProofs := false) (disch := first | assumption | (try simp only [lens]); omega -splitDisjunctions) [g1i, g2i, d1, d2, d3, d4]))))))
  · generalize plainL [f, a, b] = w at *
    (((try simp (implicitDefEqProofs := false)); (try simp (implicitDefEqProofs := false) (disch := first | assumption | (try simp only [lens]); omega -splitDisjunctions))); all_goals try (repeat' ((first | ((with_reducible first | refine And.intro ?_ ?_ | refine Exists.intro ?_ ?_); first | omega | (simp <;> omega)) | (with_reducible refine spl (And.intro ?_ ?_) <;> intro _) | (refine CL.clo (hbg) ?_) | (refine CM.clo (hbg) ?_) | (refine CD.clo (hbg) ?_) | (refine CL.clo (vf) ?_) | (refine CM.clo (vf) ?_) | (refine CD.clo (vf) ?_) | (refine CL.clo (va) ?_) | (refine CM.clo (va) ?_) | (refine CD.clo (va) ?_) | (refine CL.clo (vb) ?_) | (refine CM.clo (vb) ?_) | (refine CD.clo (vb) ?_)) <;> ((try simp (implicitDefEqProofs := false)); (try simp (implicitDefEqProofs := false) (disch := first | assumption | (try simp only [lens]); omega -splitDisjunctions))))))
    refine CL.giv [3] ?_
    (((try simp (implicitDefEqProofs := false) [h1]); (try simp (implicitDefEqProofs := false) (disch := first | assumption | (try simp only [lens]); omega -splitDisjunctions) [h1])); all_goals try (repeat' ((first | ((with_reducible first | refine And.intro ?_ ?_ | refine Exists.intro ?_ ?_); first | omega | (simp <;> omega)) | (with_reducible refine spl (And.intro ?_ ?_) <;> intro _) | (refine CL.clo (hpf) ?_) | (refine CM.clo (hpf) ?_) | (refine CD.clo (hpf) ?_)) <;> ((try simp (implicitDefEqProofs := false) [h1]); (try simp (implicitDefEqProofs := false) (disch := first | assumption | (try simp only [lens]); omega -splitDisjunctions) [h1])))))
end Go.Proofs.Ytbmpmmbcfabeeaa
