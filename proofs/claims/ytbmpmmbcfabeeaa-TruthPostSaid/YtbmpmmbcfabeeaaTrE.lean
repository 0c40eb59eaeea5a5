/-
  truth: few, Rows, Valid, Value.
-/
import Derived.Test.YtbmpmmbcfabeeaaTrD
namespace Go.Proofs.Ytbmpmmbcfabeeaa
open Go Go.Pv
set_option linter.unusedVariables false
set_option linter.unusedSimpArgs false
set_option maxRecDepth 100000
set_option maxHeartbeats 4000000

/-- a formula's names, if there are few -/
def fewV (f : Fm) : List ByteArray × (Int × Int) := if (plainF f).1 ≠ 0 then ([], plainF f) else if 6 < (namesF f).length then ([], (2, 0)) else (namesF f, (0, 0))
theorem namesF_len (f : Fm) : (namesF f).length ≤ 200 := Nat.le_trans (compL_length _) (by rw [sortL_length]; exact Nat.le_trans (varsL_le _) (nodesGo_len 200 200 [f]))
def x82 : XC := .seq (.reg [⟨some 2,.assign (.const (.slice none 0 0)),none⟩,⟨some 3,.alloc 29,none⟩]) (.seq (.seq (.reg [⟨some 6,.move (.tmp 0),none⟩,⟨some 7,.call ⟨.value (.func 108),#[.tmp 6],#[22]⟩,none⟩,⟨some 4,.alloc 29,none⟩,⟨none,.store 29 (.tmp 4) (.tmp 7),none⟩]) (.seq (.reg [⟨some 8,.fieldAddr 29 (.tmp 4) 0,none⟩,⟨some 9,.load 3 (.tmp 8),none⟩,⟨some 10,.binOp .neq 3 (.tmp 9) (.const (.int .i64 0)) 3,none⟩]) (.cond (.tmp 10) (.seq (.drawn 3 [⟨some 11,.load 29 (.tmp 4),none⟩,⟨some 2,.assign (.const (.slice none 0 0)),none⟩,⟨none,.store 29 (.tmp 3) (.tmp 11),none⟩]) (.ret)) (.skip)))) (.seq (.reg [⟨some 12,.move (.tmp 0),none⟩,⟨some 13,.call ⟨.value (.func 91),#[.tmp 12],#[22]⟩,none⟩,⟨some 5,.assign (.tmp 13),none⟩]) (.seq (.seq (.reg [⟨some 14,.move (.tmp 5),none⟩,⟨some 15,.call ⟨.builtin .len,#[.tmp 14],#[53]⟩,none⟩,⟨some 16,.binOp .gtr 3 (.tmp 15) (.const (.int .i64 6)) 3,none⟩]) (.cond (.tmp 16) (.seq (.reg [⟨some 17,.call ⟨.value (.func 109),#[.const (.int .i64 2),.const (.int .i64 0)],#[3,3]⟩,none⟩,⟨some 2,.assign (.const (.slice none 0 0)),none⟩,⟨none,.store 29 (.tmp 3) (.tmp 17),none⟩]) (.ret)) (.skip))) (.seq (.reg [⟨some 18,.move (.tmp 5),none⟩,⟨some 19,.build 29 #[],none⟩,⟨some 2,.assign (.tmp 18),none⟩,⟨none,.store 29 (.tmp 3) (.tmp 19),none⟩]) (.ret)))))
@[simp] theorem x82_s {C : WC} {e : AE} {s : Store} {K : KS} : type_of% (@X_at C e s K _ _ x82.eq_1) := X_at x82.eq_1
def an82 : Ann := ⟨[], [], []⟩
def cx82 (P : Program) (m : Nat) : WC := ⟨P, m, an82⟩
@[simp] theorem cx82_a {P : Program} {m : Nat} : (cx82 P m).P = P ∧ (cx82 P m).m = m ∧ (cx82 P m).A.clsOf 3 = .draw ∧ (cx82 P m).A.frzOf 3 = [] := ⟨rfl, rfl, rfl, rfl⟩
instance {P : Program} {m f : Nat} [h : EnT P f] : EnT (cx82 P m).P f := h
theorem chk82 : ∀ c, Try.f82.body = some c → chkC Try.f82.ntmps an82 c = true := by intro c h; obtain rfl := Option.some.inj h; decide +kernel
theorem os82 {args : List PV} {v : PV} (h : X (cx82 Try.prog 0) x82 (argsA 0 args) [] (.fin [.tmp 2, .cell 3 29] fun v1 s1 => softV (deref s1 6 v1) = v)) (hl : args.length ≤ Try.f82.ntmps := by rw [Try.ntmps82]; simp) : CallOK Try.prog 82 args [] v [] :=
  callXF (m := 0) (cx82 Try.prog 0) x82 rfl rfl (by kernel_rfl) Try.func82 rfl rfl hl mixed (chk82 _ rfl) (by rw [Try.results82]; exact h)

theorem few_truth (f : Fm) : CallOK Try.prog 82 [.list [frm f]] [] (.tuple [.list ((fewV f).1.map strRow), .agg [.int .i64 (fewV f).2.1, .int .i64 (fewV f).2.2]]) [] := by
  have hp := Plain_truth [f] (by simp)
  rw [plainL_one] at hp
  have hn := NamesOf_formula f
  rw [show compL (sortL (varsL (nodesGo 200 200 [f]))) = namesF f from rfl] at hn
  have hnl := namesF_len f
  unfold fewV
  refine os82 ?_
  by_cases h1 : (plainF f).1 = 0
  · rw [if_neg (by simpa using h1)]
    have hz := plainF_zero h1
    rw [hz] at hp
    clear hz h1
    generalize namesF f = ns at *
    by_cases h6 : 6 < ns.length
    · rw [if_pos h6]
      have h6i : (6 : Int) < (ns.length : Int) := by omega
      (((try simp (implicitDefEqProofs := false) [h6i]); (try simp (implicitDefEqProofs := false) (disch := first | assumption | (try simp only [lens]); omega -splitDisjunctions) [h6i])); all_goals try (repeat' ((first | ((with_reducible first | refine And.intro ?_ ?_ | refine Exists.intro ?_ ?_); first | omega | (simp <;> omega)) | (with_reducible refine spl (And.intro ?_ ?_) <;> intro _) | (refine CL.clo (hp) ?_) | (refine CM.clo (hp) ?_) | (refine CD.clo (hp) ?_) | (refine CL.clo (hn) ?_) | (refine CM.clo (hn) ?_) | (refine CD.clo (hn) ?_) | (refine CL.clo (fault_truth 2 0) ?_) | (refine CM.clo (fault_truth 2 0) ?_) | (refine CD.clo (fault_truth 2 0) ?_)) <;> ((try simp (implicitDefEqProofs := false) [h6i]); (try simp (implicitDefEqProofs := false) (disch := first | assumption | (try simp only [lens]); omega -splitDisjunctions) [h6i])))))
    · rw [if_neg h6]
      have h6i : ¬ (6 : Int) < (ns.length : Int) := by omega
      (((try simp (implicitDefEqProofs := false) [h6i]); (try simp (implicitDefEqProofs := false) (disch := first | assumption | (try simp only [lens]); omega -splitDisjunctions) [h6i])); all_goals try (repeat' ((first | ((with_reducible first | refine And.intro ?_ ?_ | refine Exists.intro ?_ ?_); first | omega | (simp <;> omega)) | (with_reducible refine spl (And.intro ?_ ?_) <;> intro _) | (refine CL.clo (hp) ?_) | (refine CM.clo (hp) ?_) | (refine CD.clo (hp) ?_) | (refine CL.clo (hn) ?_) | (refine CM.clo (hn) ?_) | (refine CD.clo (hn) ?_) | (refine CL.clo (fault_truth 2 0) ?_) | (refine CM.clo (fault_truth 2 0) ?_) | (refine CD.clo (fault_truth 2 0) ?_)) <;> ((try simp (implicitDefEqProofs := false) [h6i]); (try simp (implicitDefEqProofs := false) (disch := first | assumption | (try simp only [lens]); omega -splitDisjunctions) [h6i])))))
  · rw [if_pos (by simpa using h1)]
    clear hn hnl
    generalize plainF f = w at *
    (((try simp (implicitDefEqProofs := false) [h1]); (try simp (implicitDefEqProofs := false) (disch := first | assumption | (try simp only [lens]); omega -splitDisjunctions) [h1])); all_goals try (repeat' ((first | ((with_reducible first | refine And.intro ?_ ?_ | refine Exists.intro ?_ ?_); first | omega | (simp <;> omega)) | (with_reducible refine spl (And.intro ?_ ?_) <;> intro _) | (refine CL.clo (hp) ?_) | (refine CM.clo (hp) ?_) | (refine CD.clo (hp) ?_)) <;> ((try simp (implicitDefEqProofs := false) [h1]); (try simp (implicitDefEqProofs := false) (disch := first | assumption | (try simp only [lens]); omega -splitDisjunctions) [h1])))))
theorem fewV_zero {f : Fm} (h : (fewV f).2.1 = 0) : fewV f = (namesF f, (0, 0)) ∧ (plainF f).1 = 0 ∧ (namesF f).length ≤ 6 := by
  unfold fewV at h ⊢
  by_cases h1 : (plainF f).1 = 0
  · rw [if_neg (by simpa using h1)] at h ⊢
    by_cases h6 : 6 < (namesF f).length
    · rw [if_pos h6] at h; simp at h
    · rw [if_neg h6]; exact ⟨rfl, h1, by omega⟩
  · rw [if_pos (by simpa using h1)] at h; exact absurd h h1
def rowsV (f : Fm) : List Bool := if (fewV f).2.1 ≠ 0 then [] else rowsB (namesF f) f
def x58 : XC := .seq (.reg [⟨some 1,.box 24 (.tmp 0),none⟩,⟨some 2,.assign (.const (.slice none 0 0)),none⟩,⟨some 3,.alloc 29,none⟩]) (.seq (.reg [⟨some 8,.load 24 (.tmp 1),none⟩,⟨some 9,.buildSlice 22 1 #[(0,.tmp 8)],none⟩,⟨some 10,.call ⟨.value (.func 82),#[.tmp 9],#[22]⟩,none⟩,⟨some 7,.move (.tmp 10),none⟩,⟨some 11,.extract (.tmp 7) 0,none⟩,⟨some 12,.extract (.tmp 7) 1,none⟩,⟨some 5,.alloc 29,none⟩,⟨some 4,.assign (.tmp 11),none⟩,⟨none,.store 29 (.tmp 5) (.tmp 12),none⟩]) (.seq (.seq (.reg [⟨some 13,.fieldAddr 29 (.tmp 5) 0,none⟩,⟨some 14,.load 3 (.tmp 13),none⟩,⟨some 15,.binOp .neq 3 (.tmp 14) (.const (.int .i64 0)) 3,none⟩]) (.cond (.tmp 15) (.seq (.drawn 3 [⟨some 16,.load 29 (.tmp 5),none⟩,⟨some 2,.assign (.const (.slice none 0 0)),none⟩,⟨none,.store 29 (.tmp 3) (.tmp 16),none⟩]) (.ret)) (.skip))) (.seq (.reg [⟨some 6,.alloc 46,none⟩]) (.seq (.reg [⟨some 17,.move (.tmp 4),none⟩,⟨some 18,.makeFunc (.func 111) #[] #[.tmp 6,.tmp 1],none⟩,⟨some 19,.call ⟨.value (.func 83),#[.tmp 17,.tmp 18],#[53,118]⟩,none⟩]) (.seq (.drawn 6 [⟨some 20,.load 46 (.tmp 6),none⟩,⟨some 21,.load 29 (.tmp 5),none⟩,⟨some 2,.assign (.tmp 20),none⟩,⟨none,.store 29 (.tmp 3) (.tmp 21),none⟩]) (.ret))))))
@[simp] theorem x58_s {C : WC} {e : AE} {s : Store} {K : KS} : type_of% (@X_at C e s K _ _ x58.eq_1) := X_at x58.eq_1
def an58 : Ann := ⟨[], [], []⟩
def cx58 (P : Program) (m : Nat) : WC := ⟨P, m, an58⟩
@[simp] theorem cx58_a {P : Program} {m : Nat} : (cx58 P m).P = P ∧ (cx58 P m).m = m ∧ (cx58 P m).A.clsOf 3 = .draw ∧ (cx58 P m).A.clsOf 6 = .draw ∧ (cx58 P m).A.frzOf 3 = [] ∧ (cx58 P m).A.frzOf 6 = [] := ⟨rfl, rfl, rfl, rfl, rfl, rfl⟩
instance {P : Program} {m f : Nat} [h : EnT P f] : EnT (cx58 P m).P f := h
theorem chk58 : ∀ c, Try.f58.body = some c → chkC Try.f58.ntmps an58 c = true := by intro c h; obtain rfl := Option.some.inj h; decide +kernel
theorem os58 {args : List PV} {v : PV} (h : X (cx58 Try.prog 0) x58 (argsA 0 args) [] (.fin [.tmp 2, .cell 3 29] fun v1 s1 => softV (deref s1 6 v1) = v)) (hl : args.length ≤ Try.f58.ntmps := by rw [Try.ntmps58]; simp) : CallOK Try.prog 58 args [] v [] :=
  callXF (m := 0) (cx58 Try.prog 0) x58 rfl rfl (by kernel_rfl) Try.func58 rfl rfl hl mixed (chk58 _ rfl) (by rw [Try.results58]; exact h)

theorem Rows_truth (f : Fm) : CallOK Try.prog 58 [.agg (frm f)] [] (.tuple [.list ((rowsV f).map boolRow), .agg [.int .i64 (fewV f).2.1, .int .i64 (fewV f).2.2]]) [] := by
  have hf := few_truth f
  unfold rowsV
  refine os58 ?_
  by_cases h1 : (fewV f).2.1 = 0
  · rw [if_neg (by simpa using h1)]
    obtain ⟨h2, h3, h4⟩ := fewV_zero h1
    have hr := rows_Rows (namesF f) (namesF_nodup f) (by omega) f ((plainF_iff f).1 h3).1
    have hbl : (rowsB (namesF f) f).length = 2 ^ (namesF f).length := by simp [rowsB]
    rw [h2] at hf ⊢
    generalize rowsB (namesF f) f = B at *
    rw [← hbl] at hr
    clear h1 h2 h3 hbl
    generalize namesF f = ns at *
    (((try simp (implicitDefEqProofs := false)); (try simp (implicitDefEqProofs := false) (disch := first | assumption | (try simp only [lens]); omega -splitDisjunctions))); all_goals try (repeat' ((first | ((with_reducible first | refine And.intro ?_ ?_ | refine Exists.intro ?_ ?_); first | omega | (simp <;> omega)) | (with_reducible refine spl (And.intro ?_ ?_) <;> intro _)) <;> ((try simp (implicitDefEqProofs := false)); (try simp (implicitDefEqProofs := false) (disch := first | assumption | (try simp only [lens]); omega -splitDisjunctions))))))
    refine CL.giv [2] ?_
    (((try simp (implicitDefEqProofs := false)); (try simp (implicitDefEqProofs := false) (disch := first | assumption | (try simp only [lens]); omega -splitDisjunctions))); all_goals try (repeat' ((first | ((with_reducible first | refine And.intro ?_ ?_ | refine Exists.intro ?_ ?_); first | omega | (simp <;> omega)) | (with_reducible refine spl (And.intro ?_ ?_) <;> intro _) | (refine CL.clo (hf) ?_) | (refine CM.clo (hf) ?_) | (refine CD.clo (hf) ?_)) <;> ((try simp (implicitDefEqProofs := false)); (try simp (implicitDefEqProofs := false) (disch := first | assumption | (try simp only [lens]); omega -splitDisjunctions))))))
    refine CL.sub [4, 0] (hc := by simpa using hr) ?_
    (((try simp (implicitDefEqProofs := false)); (try simp (implicitDefEqProofs := false) (disch := first | assumption | (try simp only [lens]); omega -splitDisjunctions))); all_goals try (repeat' ((first | ((with_reducible first | refine And.intro ?_ ?_ | refine Exists.intro ?_ ?_); first | omega | (simp <;> omega)) | (with_reducible refine spl (And.intro ?_ ?_) <;> intro _)) <;> ((try simp (implicitDefEqProofs := false)); (try simp (implicitDefEqProofs := false) (disch := first | assumption | (try simp only [lens]); omega -splitDisjunctions))))))
    all_goals trace_state
  · rw [if_pos (by simpa using h1)]
    generalize fewV f = w at *
    (((try simp (implicitDefEqProofs := false)); (try simp (implicitDefEqProofs := false) (disch := first | assumption | (try simp only [lens]); omega -splitDisjunctions))); all_goals try (repeat' ((first | ((with_reducible first | refine And.intro ?_ ?_ | refine Exists.intro ?_ ?_); first | omega | (simp <;> omega)) | (with_reducible refine spl (And.intro ?_ ?_) <;> intro _)) <;> ((try simp (implicitDefEqProofs := false)); (try simp (implicitDefEqProofs := false) (disch := first | assumption | (try simp only [lens]); omega -splitDisjunctions))))))
    refine CL.giv [2] ?_
    (((try simp (implicitDefEqProofs := false) [h1]); (try simp (implicitDefEqProofs := false) (disch := first | assumption | (try simp only [lens]); omega -splitDisjunctions) [h1])); all_goals try (repeat' ((first | ((with_reducible first | refine And.intro ?_ ?_ | refine Exists.intro ?_ ?_); first | omega | (simp <;> omega)) | (with_reducible refine spl (And.intro ?_ ?_) <;> intro _) | (refine CL.clo (hf) ?_) | (refine CM.clo (hf) ?_) | (refine CD.clo (hf) ?_)) <;> ((try simp (implicitDefEqProofs := false) [h1]); (try simp (implicitDefEqProofs := false) (disch := first | assumption | (try simp only [lens]); omega -splitDisjunctions) [h1])))))
/-- valid, and if not, where it is false -/
def validV (f : Fm) : Bool × List ByteArray := if (fewV f).2.1 ≠ 0 then (false, []) else match fstF (rowsB (namesF f) f) with
  | none => (true, [])
  | some k => (false, rowL (namesF f) k)
def x35 : XC := .seq (.reg [⟨some 1,.box 24 (.tmp 0),none⟩,⟨some 2,.assign (.const (.bool false)),none⟩,⟨some 3,.assign (.const (.slice none 0 0)),none⟩,⟨some 4,.alloc 29,none⟩]) (.seq (.reg [⟨some 10,.load 24 (.tmp 1),none⟩,⟨some 11,.buildSlice 22 1 #[(0,.tmp 10)],none⟩,⟨some 12,.call ⟨.value (.func 82),#[.tmp 11],#[22]⟩,none⟩,⟨some 9,.move (.tmp 12),none⟩,⟨some 13,.extract (.tmp 9) 0,none⟩,⟨some 14,.extract (.tmp 9) 1,none⟩,⟨some 5,.alloc 53,none⟩,⟨some 6,.alloc 29,none⟩,⟨none,.store 53 (.tmp 5) (.tmp 13),none⟩,⟨none,.store 29 (.tmp 6) (.tmp 14),none⟩]) (.seq (.seq (.reg [⟨some 15,.fieldAddr 29 (.tmp 6) 0,none⟩,⟨some 16,.load 3 (.tmp 15),none⟩,⟨some 17,.binOp .neq 3 (.tmp 16) (.const (.int .i64 0)) 3,none⟩]) (.cond (.tmp 17) (.seq (.drawn 3 [⟨some 18,.load 29 (.tmp 6),none⟩,⟨some 2,.assign (.const (.bool false)),none⟩,⟨some 3,.assign (.const (.slice none 0 0)),none⟩,⟨none,.store 29 (.tmp 4) (.tmp 18),none⟩]) (.ret)) (.skip))) (.seq (.reg [⟨some 7,.alloc 4,none⟩,⟨none,.store 4 (.tmp 7) (.const (.bool true)),none⟩]) (.seq (.reg [⟨some 8,.alloc 53,none⟩]) (.seq (.reg [⟨some 19,.load 53 (.tmp 5),none⟩,⟨some 20,.makeFunc (.func 84) #[] #[.tmp 1,.tmp 7,.tmp 5,.tmp 8],none⟩,⟨some 21,.call ⟨.value (.func 83),#[.tmp 19,.tmp 20],#[53,118]⟩,none⟩]) (.seq (.drawn 7 [⟨some 22,.load 4 (.tmp 7),none⟩,⟨some 23,.load 53 (.tmp 8),none⟩,⟨some 24,.load 29 (.tmp 6),none⟩,⟨some 2,.assign (.tmp 22),none⟩,⟨some 3,.assign (.tmp 23),none⟩,⟨none,.store 29 (.tmp 4) (.tmp 24),none⟩]) (.ret)))))))
@[simp] theorem x35_s {C : WC} {e : AE} {s : Store} {K : KS} : type_of% (@X_at C e s K _ _ x35.eq_1) := X_at x35.eq_1
def an35 : Ann := ⟨[], [], []⟩
def cx35 (P : Program) (m : Nat) : WC := ⟨P, m, an35⟩
@[simp] theorem cx35_a {P : Program} {m : Nat} : (cx35 P m).P = P ∧ (cx35 P m).m = m ∧ (cx35 P m).A.clsOf 3 = .draw ∧ (cx35 P m).A.clsOf 7 = .draw ∧ (cx35 P m).A.frzOf 3 = [] ∧ (cx35 P m).A.frzOf 7 = [] := ⟨rfl, rfl, rfl, rfl, rfl, rfl⟩
instance {P : Program} {m f : Nat} [h : EnT P f] : EnT (cx35 P m).P f := h
theorem chk35 : ∀ c, Try.f35.body = some c → chkC Try.f35.ntmps an35 c = true := by intro c h; obtain rfl := Option.some.inj h; decide +kernel
theorem os35 {args : List PV} {v : PV} (h : X (cx35 Try.prog 0) x35 (argsA 0 args) [] (.fin [.tmp 2, .tmp 3, .cell 4 29] fun v1 s1 => softV (deref s1 6 v1) = v)) (hl : args.length ≤ Try.f35.ntmps := by rw [Try.ntmps35]; simp) : CallOK Try.prog 35 args [] v [] :=
  callXF (m := 0) (cx35 Try.prog 0) x35 rfl rfl (by kernel_rfl) Try.func35 rfl rfl hl mixed (chk35 _ rfl) (by rw [Try.results35]; exact h)

theorem Valid_truth (f : Fm) : CallOK Try.prog 35 [.agg (frm f)] [] (.tuple [.bool (validV f).1, .list ((validV f).2.map strRow), .agg [.int .i64 (fewV f).2.1, .int .i64 (fewV f).2.2]]) [] := by
  have hf := few_truth f
  unfold validV
  refine os35 ?_
  by_cases h1 : (fewV f).2.1 = 0
  · rw [if_neg (by simpa using h1)]
    obtain ⟨h2, h3, h4⟩ := fewV_zero h1
    have hr := rows_Valid (namesF f) (namesF_nodup f) (by omega) f ((plainF_iff f).1 h3).1
    rw [h2] at hf ⊢
    generalize fstF (rowsB (namesF f) f) = o at *
    clear h1 h2 h3
    cases o with
    | none =>
      dsimp only
      unfold valS at hr
      generalize namesF f = ns at *
      (((try simp (implicitDefEqProofs := false)); (try simp (implicitDefEqProofs := false) (disch := first | assumption | (try simp only [lens]); omega -splitDisjunctions))); all_goals try (repeat' ((first | ((with_reducible first | refine And.intro ?_ ?_ | refine Exists.intro ?_ ?_); first | omega | (simp <;> omega)) | (with_reducible refine spl (And.intro ?_ ?_) <;> intro _)) <;> ((try simp (implicitDefEqProofs := false)); (try simp (implicitDefEqProofs := false) (disch := first | assumption | (try simp only [lens]); omega -splitDisjunctions))))))
      refine CL.giv [2] ?_
      (((try simp (implicitDefEqProofs := false)); (try simp (implicitDefEqProofs := false) (disch := first | assumption | (try simp only [lens]); omega -splitDisjunctions))); all_goals try (repeat' ((first | ((with_reducible first | refine And.intro ?_ ?_ | refine Exists.intro ?_ ?_); first | omega | (simp <;> omega)) | (with_reducible refine spl (And.intro ?_ ?_) <;> intro _) | (refine CL.clo (hf) ?_) | (refine CM.clo (hf) ?_) | (refine CD.clo (hf) ?_)) <;> ((try simp (implicitDefEqProofs := false)); (try simp (implicitDefEqProofs := false) (disch := first | assumption | (try simp only [lens]); omega -splitDisjunctions))))))
      refine CL.sub [0, 5, 3, 6] (hc := by simpa using hr) ?_
      (((try simp (implicitDefEqProofs := false)); (try simp (implicitDefEqProofs := false) (disch := first | assumption | (try simp only [lens]); omega -splitDisjunctions))); all_goals try (repeat' ((first | ((with_reducible first | refine And.intro ?_ ?_ | refine Exists.intro ?_ ?_); first | omega | (simp <;> omega)) | (with_reducible refine spl (And.intro ?_ ?_) <;> intro _)) <;> ((try simp (implicitDefEqProofs := false)); (try simp (implicitDefEqProofs := false) (disch := first | assumption | (try simp only [lens]); omega -splitDisjunctions))))))
      all_goals trace_state
    | some k =>
      dsimp only
      unfold valS at hr
      dsimp only at hr
      generalize rowL (namesF f) k = c at *
      generalize namesF f = ns at *
      (((try simp (implicitDefEqProofs := false)); (try simp (implicitDefEqProofs := false) (disch := first | assumption | (try simp only [lens]); omega -splitDisjunctions))); all_goals try (repeat' ((first | ((with_reducible first | refine And.intro ?_ ?_ | refine Exists.intro ?_ ?_); first | omega | (simp <;> omega)) | (with_reducible refine spl (And.intro ?_ ?_) <;> intro _)) <;> ((try simp (implicitDefEqProofs := false)); (try simp (implicitDefEqProofs := false) (disch := first | assumption | (try simp only [lens]); omega -splitDisjunctions))))))
      refine CL.giv [2] ?_
      (((try simp (implicitDefEqProofs := false)); (try simp (implicitDefEqProofs := false) (disch := first | assumption | (try simp only [lens]); omega -splitDisjunctions))); all_goals try (repeat' ((first | ((with_reducible first | refine And.intro ?_ ?_ | refine Exists.intro ?_ ?_); first | omega | (simp <;> omega)) | (with_reducible refine spl (And.intro ?_ ?_) <;> intro _) | (refine CL.clo (hf) ?_) | (refine CM.clo (hf) ?_) | (refine CD.clo (hf) ?_)) <;> ((try simp (implicitDefEqProofs := false)); (try simp (implicitDefEqProofs := false) (disch := first | assumption | (try simp only [lens]); omega -splitDisjunctions))))))
      refine CL.sub [0, 5, 3, 6] (hc := by simpa using hr) ?_
      (((try simp (implicitDefEqProofs := false)); (try simp (implicitDefEqProofs := false) (disch := first | assumption | (try simp only [lens]); omega -splitDisjunctions))); all_goals try (repeat' ((first | ((with_reducible first | refine And.intro ?_ ?_ | refine Exists.intro ?_ ?_); first | omega | (simp <;> omega)) | (with_reducible refine spl (And.intro ?_ ?_) <;> intro _)) <;> ((try simp (implicitDefEqProofs := false)); (try simp (implicitDefEqProofs := false) (disch := first | assumption | (try simp only [lens]); omega -splitDisjunctions))))))
      all_goals trace_state
  · rw [if_pos (by simpa using h1)]
    generalize fewV f = w at *
    (((try simp (implicitDefEqProofs := false)); (try simp (implicitDefEqProofs := false) (disch := first | assumption | (try simp only [lens]); omega -splitDisjunctions))); all_goals try (repeat' ((first | ((with_reducible first | refine And.intro ?_ ?_ | refine Exists.intro ?_ ?_); first | omega | (simp <;> omega)) | (with_reducible refine spl (And.intro ?_ ?_) <;> intro _)) <;> ((try simp (implicitDefEqProofs := false)); (try simp (implicitDefEqProofs := false) (disch := first | assumption | (try simp only [lens]); omega -splitDisjunctions))))))
    refine CL.giv [2] ?_
    (((try simp (implicitDefEqProofs := false) [h1]); (try simp (implicitDefEqProofs := false) (disch := first | assumption | (try simp only [lens]); omega -splitDisjunctions) [h1])); all_goals try (repeat' ((first | ((with_reducible first | refine And.intro ?_ ?_ | refine Exists.intro ?_ ?_); first | omega | (simp <;> omega)) | (with_reducible refine spl (And.intro ?_ ?_) <;> intro _) | (refine CL.clo (hf) ?_) | (refine CM.clo (hf) ?_) | (refine CD.clo (hf) ?_)) <;> ((try simp (implicitDefEqProofs := false) [h1]); (try simp (implicitDefEqProofs := false) (disch := first | assumption | (try simp only [lens]); omega -splitDisjunctions) [h1])))))
end Go.Proofs.Ytbmpmmbcfabeeaa
