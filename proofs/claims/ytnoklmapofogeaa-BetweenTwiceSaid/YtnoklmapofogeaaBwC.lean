/-
  between: Project, Interpolate.
-/
import Derived.Test.YtnoklmapofogeaaBwB
namespace Go.Proofs.Ytnoklmapofogeaa
open Go Go.Pv
set_option linter.unusedVariables false
set_option linter.unusedSimpArgs false
set_option maxRecDepth 100000
set_option maxHeartbeats 4000000

theorem namesS_len (l : List Fm) : (namesS l).length ≤ 200 * l.length := by
  have h1 := compL_length (sortL (varsS l)); rw [sortL_length] at h1
  exact Nat.le_trans h1 (varsS_len l)
def x82 : XC := .seq (.reg [⟨some 3,.assign (.const (.bool false)),none⟩]) (.seq (.reg [⟨some 4,.load 35 (.tmp 1),none⟩,⟨some 5,.move (.tmp 0),none⟩,⟨some 6,.call ⟨.value (.func 83),#[.tmp 4,.tmp 5],#[35,9]⟩,none⟩,⟨some 7,.unOp .not 4 (.tmp 6),none⟩,⟨some 3,.assign (.tmp 7),none⟩]) (.ret))
@[simp] theorem x82_s {C : WC} {e : AE} {s : Store} {K : KS} : type_of% (@X_at C e s K _ _ x82.eq_1) := X_at x82.eq_1
def an82 : Ann := ⟨[], [], []⟩
def cx82 (P : Program) (m : Nat) : WC := ⟨P, m, an82⟩
@[simp] theorem cx82_a {P : Program} {m : Nat} : (cx82 P m).P = P ∧ (cx82 P m).m = m := ⟨rfl, rfl⟩
instance {P : Program} {m f : Nat} [h : EnT P f] : EnT (cx82 P m).P f := h
theorem chk82 : ∀ c, Try.f82.body = some c → chkC Try.f82.ntmps an82 c = true := by intro c h; obtain rfl := Option.some.inj h; decide +kernel
theorem op82 {args : List PV} {v : PV} (h : X (cx82 Try.prog 0) x82 (argsA 0 args) [] (.fin [.tmp 3] fun v1 s1 => deref s1 6 v1 = v)) (hl : args.length ≤ Try.f82.ntmps := by rw [Try.ntmps82]; simp) : CallOK Try.prog 82 args [] v [] :=
  callX (m := 0) (cx82 Try.prog 0) x82 rfl rfl (by kernel_rfl) Try.func82 rfl rfl hl mixed (chk82 _ rfl) (by rw [Try.results82]; exact h)

theorem Project1_between (ns : List ByteArray) (x : ByteArray) : CallOK Try.prog 82 [.str x, .iptr [.list (ns.map strRow)]] [] (.bool (!hasStr ns x)) [] := by
  have hc := contains_strs ns x []
  refine op82 ?_
  (((try simp (implicitDefEqProofs := false)); (try simp (implicitDefEqProofs := false) (disch := first | assumption | (try simp only [lens]); omega -splitDisjunctions))); all_goals try (repeat' ((first | ((with_reducible first | refine And.intro ?_ ?_ | refine Exists.intro ?_ ?_); first | omega | (simp <;> omega)) | (with_reducible refine spl (And.intro ?_ ?_) <;> intro _) | (refine CL.clo (hc) ?_) | (refine CM.clo (hc) ?_) | (refine CD.clo (hc) ?_)) <;> ((try simp (implicitDefEqProofs := false)); (try simp (implicitDefEqProofs := false) (disch := first | assumption | (try simp only [lens]); omega -splitDisjunctions))))))
def x86 : XC := .seq (.reg [⟨some 4,.assign (.const (.bool false)),none⟩]) (.seq (.reg [⟨some 5,.load 24 (.tmp 1),none⟩,⟨some 6,.load 35 (.tmp 2),none⟩,⟨some 7,.move (.tmp 0),none⟩,⟨some 8,.call ⟨.value (.func 75),#[.tmp 5,.tmp 6,.tmp 7],#[24,35,35]⟩,none⟩,⟨some 4,.assign (.tmp 8),none⟩]) (.ret))
@[simp] theorem x86_s {C : WC} {e : AE} {s : Store} {K : KS} : type_of% (@X_at C e s K _ _ x86.eq_1) := X_at x86.eq_1
def an86 : Ann := ⟨[], [], []⟩
def cx86 (P : Program) (m : Nat) : WC := ⟨P, m, an86⟩
@[simp] theorem cx86_a {P : Program} {m : Nat} : (cx86 P m).P = P ∧ (cx86 P m).m = m := ⟨rfl, rfl⟩
instance {P : Program} {m f : Nat} [h : EnT P f] : EnT (cx86 P m).P f := h
theorem chk86 : ∀ c, Try.f86.body = some c → chkC Try.f86.ntmps an86 c = true := by intro c h; obtain rfl := Option.some.inj h; decide +kernel
theorem op86 {args : List PV} {v : PV} (h : X (cx86 Try.prog 0) x86 (argsA 0 args) [] (.fin [.tmp 4] fun v1 s1 => deref s1 6 v1 = v)) (hl : args.length ≤ Try.f86.ntmps := by rw [Try.ntmps86]; simp) : CallOK Try.prog 86 args [] v [] :=
  callX (m := 0) (cx86 Try.prog 0) x86 rfl rfl (by kernel_rfl) Try.func86 rfl rfl hl mixed (chk86 _ rfl) (by rw [Try.results86]; exact h)

theorem Project2_between (f : Fm) (out hs : List ByteArray) (hl : out.length + hs.length ≤ 1000) : CallOK Try.prog 86 [.list (hs.map strRow), .iptr (frm f), .iptr [.list (out.map strRow)]] [] (.bool (someV f out hs)) [] := by
  have hs := some_between f out hs hl
  refine op86 ?_
  (((try simp (implicitDefEqProofs := false)); (try simp (implicitDefEqProofs := false) (disch := first | assumption | (try simp only [lens]); omega -splitDisjunctions))); all_goals try (repeat' ((first | ((with_reducible first | refine And.intro ?_ ?_ | refine Exists.intro ?_ ?_); first | omega | (simp <;> omega)) | (with_reducible refine spl (And.intro ?_ ?_) <;> intro _) | (refine CL.clo (hs) ?_) | (refine CM.clo (hs) ?_) | (refine CD.clo (hs) ?_)) <;> ((try simp (implicitDefEqProofs := false)); (try simp (implicitDefEqProofs := false) (disch := first | assumption | (try simp only [lens]); omega -splitDisjunctions))))))
/-- a formula's names among others, and the rest -/
def inN (f : Fm) (ns : List ByteArray) : List ByteArray := (namesS [f]).filter fun x => hasStr ns x
def outN (f : Fm) (ns : List ByteArray) : List ByteArray := (namesS [f]).filter fun x => !hasStr (inN f ns) x
noncomputable def projF (f : Fm) (ns : List ByteArray) : Fm := chooseF (someV f (outN f ns)) (inN f ns) []
noncomputable def projectV (f : Fm) (ns : List ByteArray) : Fm × (Int × Int) :=
  if (lookV [f]).2.1 ≠ 0 then (.mk 0 ⟨#[]⟩ [], (lookV [f]).2) else if 1000 < ns.length then (.mk 0 ⟨#[]⟩ [], (2, 0)) else match nameBad ns 0 with
  | some w => (.mk 0 ⟨#[]⟩ [], w)
  | none => (projF f ns, (0, 0))
theorem lookV_six {l : List Fm} (h : (lookV l).2.1 = 0) : (plainL l).1 = 0 ∧ (namesS l).length ≤ 6 ∧ lookV l = (namesS l, (0, 0)) := by
  unfold lookV at h ⊢
  by_cases h1 : (plainL l).1 = 0
  · rw [if_neg (by simpa using h1)] at h ⊢
    by_cases h2 : 6 < (namesS l).length
    · rw [if_pos h2] at h; simp at h
    · rw [if_neg h2]; exact ⟨h1, by omega, rfl⟩
  · rw [if_pos (by simpa using h1)] at h; exact absurd h h1
def x42_T1 : XC := .seq (.reg [⟨some 42,.load 24 (.tmp 2),none⟩,⟨some 43,.buildSlice 22 1 #[(0,.tmp 42)],none⟩,⟨some 44,.call ⟨.value (.func 77),#[.tmp 43],#[22]⟩,none⟩,⟨some 45,.makeFunc (.func 82) #[] #[.tmp 3],none⟩,⟨some 46,.call ⟨.value (.func 81),#[.tmp 44,.tmp 45],#[35,47]⟩,none⟩,⟨some 10,.assign (.tmp 46),none⟩]) (.seq (.reg [⟨some 47,.load 24 (.tmp 2),none⟩,⟨some 48,.move (.tmp 10),none⟩,⟨some 49,.call ⟨.value (.func 84),#[.tmp 47,.tmp 48],#[24,35]⟩,none⟩,⟨some 11,.alloc 35,none⟩,⟨none,.store 35 (.tmp 11) (.tmp 49),none⟩]) (.seq (.reg [⟨some 50,.move (.tmp 10),none⟩,⟨some 51,.makeFunc (.func 86) #[] #[.tmp 2,.tmp 11],none⟩,⟨some 52,.call ⟨.value (.func 85),#[.tmp 50,.const (.slice none 0 0),.tmp 51],#[35,35,76]⟩,none⟩,⟨some 53,.build 33 #[],none⟩,⟨none,.store 24 (.tmp 4) (.tmp 52),none⟩,⟨none,.store 33 (.tmp 5) (.tmp 53),none⟩]) (.ret)))
def x42_L0 : XC := .seq (.reg [⟨some 31,.binOp .lss 3 (.tmp 30) (.tmp 29) 3,none⟩]) (.seq (.cond (.tmp 31) (.skip) (.exit 0)) (.seq (.block 1 (.seq (.reg [⟨some 32,.move (.tmp 30),none⟩,⟨some 33,.indexAddr 35 (.tmp 28) (.tmp 30),none⟩,⟨some 34,.load 9 (.tmp 33),none⟩,⟨some 8,.assign (.tmp 32),none⟩,⟨some 9,.assign (.tmp 34),none⟩]) (.seq (.reg [⟨some 35,.move (.tmp 9),none⟩,⟨some 36,.call ⟨.value (.func 80),#[.tmp 35],#[9]⟩,none⟩,⟨some 37,.unOp .not 4 (.tmp 36),none⟩]) (.cond (.tmp 37) (.seq (.reg [⟨some 38,.build 24 #[],none⟩,⟨some 39,.move (.tmp 8),none⟩,⟨some 40,.call ⟨.value (.func 78),#[.const (.int .i64 8),.tmp 39],#[3,3]⟩,none⟩,⟨none,.store 24 (.tmp 4) (.tmp 38),none⟩,⟨none,.store 33 (.tmp 5) (.tmp 40),none⟩]) (.ret)) (.skip))))) (.reg [⟨some 41,.binOp .add 3 (.tmp 30) (.const (.int .i64 1)) 3,none⟩,⟨some 30,.move (.tmp 41),none⟩])))
def x42 : XC := .seq (.reg [⟨some 2,.box 24 (.tmp 0),none⟩,⟨some 3,.box 35 (.tmp 1),none⟩,⟨some 4,.alloc 24,none⟩,⟨some 5,.alloc 33,none⟩]) (.seq (.seq (.reg [⟨some 13,.load 24 (.tmp 2),none⟩,⟨some 14,.buildSlice 22 1 #[(0,.tmp 13)],none⟩,⟨some 15,.call ⟨.value (.func 74),#[.tmp 14],#[22]⟩,none⟩,⟨some 12,.move (.tmp 15),none⟩,⟨some 16,.extract (.tmp 12) 0,none⟩,⟨some 17,.extract (.tmp 12) 1,none⟩,⟨some 7,.alloc 33,none⟩,⟨some 6,.assign (.tmp 16),none⟩,⟨none,.store 33 (.tmp 7) (.tmp 17),none⟩]) (.seq (.reg [⟨some 18,.fieldAddr 33 (.tmp 7) 0,none⟩,⟨some 19,.load 3 (.tmp 18),none⟩,⟨some 20,.binOp .neq 3 (.tmp 19) (.const (.int .i64 0)) 3,none⟩]) (.cond (.tmp 20) (.seq (.drawn 3 [⟨some 21,.build 24 #[],none⟩,⟨some 22,.load 33 (.tmp 7),none⟩,⟨none,.store 24 (.tmp 4) (.tmp 21),none⟩,⟨none,.store 33 (.tmp 5) (.tmp 22),none⟩]) (.ret)) (.skip)))) (.seq (.seq (.reg [⟨some 23,.load 35 (.tmp 3),none⟩,⟨some 24,.call ⟨.builtin .len,#[.tmp 23],#[35]⟩,none⟩,⟨some 25,.binOp .gtr 3 (.tmp 24) (.const (.int .i64 1000)) 3,none⟩]) (.cond (.tmp 25) (.seq (.reg [⟨some 26,.build 24 #[],none⟩,⟨some 27,.call ⟨.value (.func 78),#[.const (.int .i64 2),.const (.int .i64 0)],#[3,3]⟩,none⟩,⟨none,.store 24 (.tmp 4) (.tmp 26),none⟩,⟨none,.store 33 (.tmp 5) (.tmp 27),none⟩]) (.ret)) (.skip))) (.seq (.seq (.reg [⟨some 28,.load 35 (.tmp 3),none⟩,⟨some 29,.call ⟨.builtin .len,#[.tmp 28],#[35]⟩,none⟩,⟨some 30,.move (.const (.int .i64 0)),none⟩]) (.bloop 0 x42_L0)) (x42_T1))))
@[simp] theorem x42_s {C : WC} {e : AE} {s : Store} {K : KS} : type_of% (@X_at C e s K _ _ x42_T1.eq_1) ∧ type_of% (@X_at C e s K _ _ x42_L0.eq_1) ∧ type_of% (@X_at C e s K _ _ x42.eq_1) := ⟨X_at x42_T1.eq_1, X_at x42_L0.eq_1, X_at x42.eq_1⟩
def an42 : Ann := ⟨[(3, .mix3 2 1)], [(0, [], [2, 3, 4, 5, 28, 29, 30], [2, 3, 4, 5])], []⟩
def cx42 (P : Program) (m : Nat) : WC := ⟨P, m, an42⟩
@[simp] theorem cx42_a {P : Program} {m : Nat} : (cx42 P m).P = P ∧ (cx42 P m).m = m ∧ (cx42 P m).A.clsOf 3 = .mix3 2 1 ∧ (cx42 P m).A.frzOf 3 = [] ∧ (cx42 P m).A.loopOf 0 = ([], [2, 3, 4, 5, 28, 29, 30], [2, 3, 4, 5]) := ⟨rfl, rfl, rfl, rfl, rfl⟩
instance {P : Program} {m f : Nat} [h : EnT P f] : EnT (cx42 P m).P f := h
theorem chk42 : ∀ c, Try.f42.body = some c → chkC Try.f42.ntmps an42 c = true := by intro c h; obtain rfl := Option.some.inj h; decide +kernel
theorem os42 {args : List PV} {v : PV} (h : X (cx42 Try.prog 0) x42 (argsA 0 args) [] (.fin [.cell 4 24, .cell 5 33] fun v1 s1 => softV (deref s1 6 v1) = v)) (hl : args.length ≤ Try.f42.ntmps := by rw [Try.ntmps42]; simp) : CallOK Try.prog 42 args [] v [] :=
  callXF (m := 0) (cx42 Try.prog 0) x42 rfl rfl (by kernel_rfl) Try.func42 rfl rfl hl mixed (chk42 _ rfl) (by rw [Try.results42]; exact h)

theorem Project_between (f : Fm) (ns : List ByteArray) : CallOK Try.prog 42 [.agg (frm f), .list (ns.map strRow)] [] (.tuple [.agg (frm (projectV f ns).1), .agg [.int .i64 (projectV f ns).2.1, .int .i64 (projectV f ns).2.2]]) [] := by
  have hlk := look_between [f] (by simp)
  simp only [List.map_cons, List.map_nil] at hlk
  refine os42 ?_
  by_cases h1 : (lookV [f]).2.1 = 0
  · by_cases hl : 1000 < ns.length
    · rw [show projectV f ns = (.mk 0 ⟨#[]⟩ [], (2, 0)) from by unfold projectV; rw [if_neg (by simpa using h1), if_pos hl]]
      obtain ⟨_, _, hz⟩ := lookV_six h1
      rw [hz] at hlk
      generalize namesS [f] = N at *
      have hli : (1000 : Int) < (ns.length : Int) := by omega
      rw [frm_eq (Fm.mk _ _ _)]
      (((try simp (implicitDefEqProofs := false)); (try simp (implicitDefEqProofs := false) (disch := first | assumption | (try simp only [lens]); omega -splitDisjunctions))); all_goals try (repeat' ((first | ((with_reducible first | refine And.intro ?_ ?_ | refine Exists.intro ?_ ?_); first | omega | (simp <;> omega)) | (with_reducible refine spl (And.intro ?_ ?_) <;> intro _)) <;> ((try simp (implicitDefEqProofs := false)); (try simp (implicitDefEqProofs := false) (disch := first | assumption | (try simp only [lens]); omega -splitDisjunctions))))))
      refine CL.giv [4] ?_
      (((try simp (implicitDefEqProofs := false) [hli]); (try simp (implicitDefEqProofs := false) (disch := first | assumption | (try simp only [lens]); omega -splitDisjunctions) [hli])); all_goals try (repeat' ((first | ((with_reducible first | refine And.intro ?_ ?_ | refine Exists.intro ?_ ?_); first | omega | (simp <;> omega)) | (with_reducible refine spl (And.intro ?_ ?_) <;> intro _) | (refine CL.clo (hlk) ?_) | (refine CM.clo (hlk) ?_) | (refine CD.clo (hlk) ?_) | (refine CL.clo (fault_between 2 0) ?_) | (refine CM.clo (fault_between 2 0) ?_) | (refine CD.clo (fault_between 2 0) ?_)) <;> ((try simp (implicitDefEqProofs := false) [hli]); (try simp (implicitDefEqProofs := false) (disch := first | assumption | (try simp only [lens]); omega -splitDisjunctions) [hli])))))
      all_goals trace_state
    · have hV : projectV f ns = match nameBad ns 0 with
        | some w => (.mk 0 ⟨#[]⟩ [], w)
        | none => (projF f ns, (0, 0)) := by unfold projectV; rw [if_neg (by simpa using h1), if_neg hl]
      obtain ⟨_, h6, hz⟩ := lookV_six h1
      have hn := NamesOf_own [f] (by simp)
      simp only [List.map_cons, List.map_nil] at hn
      have hd := DeleteFunc_strs (namesS [f]) (restS [f]) (by omega) 82 [.iptr [.list (ns.map strRow)]] (fun x => !hasStr ns x) (fun x _ => Project1_between ns x)
      simp only [Bool.not_not] at hd
      rw [show (namesS [f]).filter (fun x => hasStr ns x) = inN f ns from rfl] at hd
      have ho := others_between f (inN f ns)
      rw [show (namesS [f]).filter (fun x => !hasStr (inN f ns) x) = outN f ns from rfl] at ho
      have hil : (inN f ns).length ≤ 6 := Nat.le_trans (List.length_filter_le _ _) h6
      have hol : (outN f ns).length ≤ 6 := Nat.le_trans (List.length_filter_le _ _) h6
      have hch := choose_between 86 [.iptr (frm f), .iptr [.list ((outN f ns).map strRow)]] (someV f (outN f ns)) (fun hs h => Project2_between f (outN f ns) hs (by omega)) (inN f ns) [] (by simp; omega)
      rw [show chooseF (someV f (outN f ns)) (inN f ns) [] = projF f ns from rfl] at hch
      have hch := callOK_soft (args := [.list ((inN f ns).map strRow), .nilsl, .fn (.func 86) [] [.iptr (frm f), .iptr [.list ((outN f ns).map strRow)]]]) hch (.cons .refl (.cons .nil (.cons .refl .nil)))
      rw [hz] at hlk
      generalize projectV f ns = V at *
      generalize projF f ns = PF at *
      generalize inN f ns = I at *
      generalize outN f ns = U at *
      generalize namesS [f] = N at *
      generalize restS [f] = R at *
      have hli : ¬ (1000 : Int) < (ns.length : Int) := by omega
      clear hz h1
      (((try simp (implicitDefEqProofs := false)); (try simp (implicitDefEqProofs := false) (disch := first | assumption | (try simp only [lens]); omega -splitDisjunctions))); all_goals try (repeat' ((first | ((with_reducible first | refine And.intro ?_ ?_ | refine Exists.intro ?_ ?_); first | omega | (simp <;> omega)) | (with_reducible refine spl (And.intro ?_ ?_) <;> intro _)) <;> ((try simp (implicitDefEqProofs := false)); (try simp (implicitDefEqProofs := false) (disch := first | assumption | (try simp only [lens]); omega -splitDisjunctions))))))
      refine CL.giv [4] ?_
      (((try simp (implicitDefEqProofs := false) [hli]); (try simp (implicitDefEqProofs := false) (disch := first | assumption | (try simp only [lens]); omega -splitDisjunctions) [hli])); all_goals try (repeat' ((first | ((with_reducible first | refine And.intro ?_ ?_ | refine Exists.intro ?_ ?_); first | omega | (simp <;> omega)) | (with_reducible refine spl (And.intro ?_ ?_) <;> intro _) | (refine CL.clo (hlk) ?_) | (refine CM.clo (hlk) ?_) | (refine CD.clo (hlk) ?_)) <;> ((try simp (implicitDefEqProofs := false) [hli]); (try simp (implicitDefEqProofs := false) (disch := first | assumption | (try simp only [lens]); omega -splitDisjunctions) [hli])))))
      refine W_of fun Q hQ => ?_
      have main : ∀ r i, i + r = ns.length → nameBad ns 0 = nameBad (ns.drop i) i → Q [(2, .ptr 0 0 0), (3, .ptr 1 0 0), (4, .ptr 2 0 0), (5, .ptr 3 0 0), (28, .list (ns.map strRow)), (29, .int .i64 (ns.length : Int)), (30, .int .i64 (i : Int))] [.rows 3 [frm f], .rows 1 [[.list (ns.map strRow)]], .rows 3 [[.int .i64 0, .str ⟨#[]⟩, .nilsl]], .rows 2 [[.int .i64 0, .int .i64 0]]] := by
        intro r
        induction r with
        | zero =>
          intro i hi hb
          rw [List.drop_of_length_le (by omega), nameBad] at hb
          rw [hb] at hV
          dsimp only at hV
          subst hV
          apply hQ
          clear hQ
          (((try simp (implicitDefEqProofs := false)); (try simp (implicitDefEqProofs := false) (disch := first | assumption | (try simp only [lens]); omega -splitDisjunctions))); all_goals try (repeat' ((first | ((with_reducible first | refine And.intro ?_ ?_ | refine Exists.intro ?_ ?_); first | omega | (simp <;> omega)) | (with_reducible refine spl (And.intro ?_ ?_) <;> intro _)) <;> ((try simp (implicitDefEqProofs := false)); (try simp (implicitDefEqProofs := false) (disch := first | assumption | (try simp only [lens]); omega -splitDisjunctions))))))
          refine CL.giv [4] ?_
          (((try simp (implicitDefEqProofs := false)); (try simp (implicitDefEqProofs := false) (disch := first | assumption | (try simp only [lens]); omega -splitDisjunctions))); all_goals try (repeat' ((first | ((with_reducible first | refine And.intro ?_ ?_ | refine Exists.intro ?_ ?_); first | omega | (simp <;> omega)) | (with_reducible refine spl (And.intro ?_ ?_) <;> intro _)) <;> ((try simp (implicitDefEqProofs := false)); (try simp (implicitDefEqProofs := false) (disch := first | assumption | (try simp only [lens]); omega -splitDisjunctions))))))
          refine CL.sub [] (hc := by simpa using hn) ?_
          (((try simp (implicitDefEqProofs := false)); (try simp (implicitDefEqProofs := false) (disch := first | assumption | (try simp only [lens]); omega -splitDisjunctions))); all_goals try (repeat' ((first | ((with_reducible first | refine And.intro ?_ ?_ | refine Exists.intro ?_ ?_); first | omega | (simp <;> omega)) | (with_reducible refine spl (And.intro ?_ ?_) <;> intro _)) <;> ((try simp (implicitDefEqProofs := false)); (try simp (implicitDefEqProofs := false) (disch := first | assumption | (try simp only [lens]); omega -splitDisjunctions))))))
          refine CL.giv [1] ?_
          (((try simp (implicitDefEqProofs := false)); (try simp (implicitDefEqProofs := false) (disch := first | assumption | (try simp only [lens]); omega -splitDisjunctions))); all_goals try (repeat' ((first | ((with_reducible first | refine And.intro ?_ ?_ | refine Exists.intro ?_ ?_); first | omega | (simp <;> omega)) | (with_reducible refine spl (And.intro ?_ ?_) <;> intro _)) <;> ((try simp (implicitDefEqProofs := false)); (try simp (implicitDefEqProofs := false) (disch := first | assumption | (try simp only [lens]); omega -splitDisjunctions))))))
          refine CL.sub [5] (hc := by simpa using hd) ?_
          (((try simp (implicitDefEqProofs := false)); (try simp (implicitDefEqProofs := false) (disch := first | assumption | (try simp only [lens]); omega -splitDisjunctions))); all_goals try (repeat' ((first | ((with_reducible first | refine And.intro ?_ ?_ | refine Exists.intro ?_ ?_); first | omega | (simp <;> omega)) | (with_reducible refine spl (And.intro ?_ ?_) <;> intro _)) <;> ((try simp (implicitDefEqProofs := false)); (try simp (implicitDefEqProofs := false) (disch := first | assumption | (try simp only [lens]); omega -splitDisjunctions))))))
          refine CL.giv [5] ?_
          (((try simp (implicitDefEqProofs := false)); (try simp (implicitDefEqProofs := false) (disch := first | assumption | (try simp only [lens]); omega -splitDisjunctions))); all_goals try (repeat' ((first | ((with_reducible first | refine And.intro ?_ ?_ | refine Exists.intro ?_ ?_); first | omega | (simp <;> omega)) | (with_reducible refine spl (And.intro ?_ ?_) <;> intro _) | (refine CL.clo (ho) ?_) | (refine CM.clo (ho) ?_) | (refine CD.clo (ho) ?_)) <;> ((try simp (implicitDefEqProofs := false)); (try simp (implicitDefEqProofs := false) (disch := first | assumption | (try simp only [lens]); omega -splitDisjunctions))))))
          refine CL.giv [0, 6] ?_
          (((try simp (implicitDefEqProofs := false)); (try simp (implicitDefEqProofs := false) (disch := first | assumption | (try simp only [lens]); omega -splitDisjunctions))); all_goals try (repeat' ((first | ((with_reducible first | refine And.intro ?_ ?_ | refine Exists.intro ?_ ?_); first | omega | (simp <;> omega)) | (with_reducible refine spl (And.intro ?_ ?_) <;> intro _) | (refine CL.clo (hch) ?_) | (refine CM.clo (hch) ?_) | (refine CD.clo (hch) ?_)) <;> ((try simp (implicitDefEqProofs := false)); (try simp (implicitDefEqProofs := false) (disch := first | assumption | (try simp only [lens]); omega -splitDisjunctions))))))
          all_goals trace_state
        | succ r ih =>
          intro i hi hb
          have hih : i < ns.length := by omega
          have ih := ih (i + 1) (by omega)
          have hnm := isName_formula ns[i] []
          rw [nameBad_drop hih] at hb
          apply hQ
          clear hQ
          cases hx : isNameB ns[i] with
          | false =>
            rw [hx] at hb hnm
            rw [if_neg (by simp)] at hb
            rw [hb] at hV
            dsimp only at hV
            subst hV
            rw [frm_eq (Fm.mk _ _ _)]
            (((try simp (implicitDefEqProofs := false) [hih]); (try simp (implicitDefEqProofs := false) (disch := first | assumption | (try simp only [lens]); omega -splitDisjunctions) [hih])); all_goals try (repeat' ((first | ((with_reducible first | refine And.intro ?_ ?_ | refine Exists.intro ?_ ?_); first | omega | (simp <;> omega)) | (with_reducible refine spl (And.intro ?_ ?_) <;> intro _) | (refine CL.clo (hnm) ?_) | (refine CM.clo (hnm) ?_) | (refine CD.clo (hnm) ?_) | (refine CL.clo (fault_between 8 _) ?_) | (refine CM.clo (fault_between 8 _) ?_) | (refine CD.clo (fault_between 8 _) ?_)) <;> ((try simp (implicitDefEqProofs := false) [hih]); (try simp (implicitDefEqProofs := false) (disch := first | assumption | (try simp only [lens]); omega -splitDisjunctions) [hih])))))
            all_goals trace_state
          | true =>
            rw [hx] at hb hnm
            rw [if_pos rfl] at hb
            have ih := ih hb
            (((try simp (implicitDefEqProofs := false) [hih]); (try simp (implicitDefEqProofs := false) (disch := first | assumption | (try simp only [lens]); omega -splitDisjunctions) [hih])); all_goals try (repeat' ((first | ((with_reducible first | refine And.intro ?_ ?_ | refine Exists.intro ?_ ?_); first | omega | (simp <;> omega)) | (with_reducible refine spl (And.intro ?_ ?_) <;> intro _) | (refine CL.clo (hnm) ?_) | (refine CM.clo (hnm) ?_) | (refine CD.clo (hnm) ?_)) <;> ((try simp (implicitDefEqProofs := false) [hih]); (try simp (implicitDefEqProofs := false) (disch := first | assumption | (try simp only [lens]); omega -splitDisjunctions) [hih])))))
            all_goals first | exact ih | (refine at2 ih ?_ ?_ <;> simp; done) | (exfalso; first | omega | (simp_all; done) | (simp_all; omega))
      all_goals first | exact main _ 0 (Nat.zero_add _) rfl | (refine at2 main _ 0 (Nat.zero_add _) rfl ?_ ?_ <;> simp; done) | (exfalso; first | omega | (simp_all; done) | (simp_all; omega))
  · rw [show projectV f ns = (.mk 0 ⟨#[]⟩ [], (lookV [f]).2) from by unfold projectV; rw [if_pos (by simpa using h1)]]
    rw [frm_eq (Fm.mk _ _ _)]
    generalize lookV [f] = w at *
    (((try simp (implicitDefEqProofs := false)); (try simp (implicitDefEqProofs := false) (disch := first | assumption | (try simp only [lens]); omega -splitDisjunctions))); all_goals try (repeat' ((first | ((with_reducible first | refine And.intro ?_ ?_ | refine Exists.intro ?_ ?_); first | omega | (simp <;> omega)) | (with_reducible refine spl (And.intro ?_ ?_) <;> intro _)) <;> ((try simp (implicitDefEqProofs := false)); (try simp (implicitDefEqProofs := false) (disch := first | assumption | (try simp only [lens]); omega -splitDisjunctions))))))
    refine CL.giv [4] ?_
    (((try simp (implicitDefEqProofs := false) [h1]); (try simp (implicitDefEqProofs := false) (disch := first | assumption | (try simp only [lens]); omega -splitDisjunctions) [h1])); all_goals try (repeat' ((first | ((with_reducible first | refine And.intro ?_ ?_ | refine Exists.intro ?_ ?_); first | omega | (simp <;> omega)) | (with_reducible refine spl (And.intro ?_ ?_) <;> intro _) | (refine CL.clo (hlk) ?_) | (refine CM.clo (hlk) ?_) | (refine CD.clo (hlk) ?_)) <;> ((try simp (implicitDefEqProofs := false) [h1]); (try simp (implicitDefEqProofs := false) (disch := first | assumption | (try simp only [lens]); omega -splitDisjunctions) [h1])))))
    all_goals trace_state
/-- f, and not g -/
def andNot (f g : Fm) : Fm := .mk 5 ⟨#[]⟩ [f, .mk 4 ⟨#[]⟩ [g]]
noncomputable def interV (f g : Fm) : Fm × (Int × Int) :=
  if (lookV [f, g]).2.1 ≠ 0 then (.mk 0 ⟨#[]⟩ [], (lookV [f, g]).2) else if someV (andNot f g) (namesS [f, g]) [] = true then (.mk 0 ⟨#[]⟩ [], (7, 0)) else projectV f (namesS [g])
def x34 : XC := .seq (.reg [⟨some 2,.box 24 (.tmp 0),none⟩,⟨some 3,.box 24 (.tmp 1),none⟩,⟨some 4,.alloc 24,none⟩,⟨some 5,.alloc 33,none⟩]) (.seq (.seq (.reg [⟨some 9,.load 24 (.tmp 2),none⟩,⟨some 10,.load 24 (.tmp 3),none⟩,⟨some 11,.buildSlice 22 2 #[(0,.tmp 9),(1,.tmp 10)],none⟩,⟨some 12,.call ⟨.value (.func 74),#[.tmp 11],#[22]⟩,none⟩,⟨some 8,.move (.tmp 12),none⟩,⟨some 13,.extract (.tmp 8) 0,none⟩,⟨some 14,.extract (.tmp 8) 1,none⟩,⟨some 7,.alloc 33,none⟩,⟨some 6,.assign (.tmp 13),none⟩,⟨none,.store 33 (.tmp 7) (.tmp 14),none⟩]) (.seq (.reg [⟨some 15,.fieldAddr 33 (.tmp 7) 0,none⟩,⟨some 16,.load 3 (.tmp 15),none⟩,⟨some 17,.binOp .neq 3 (.tmp 16) (.const (.int .i64 0)) 3,none⟩]) (.cond (.tmp 17) (.seq (.drawn 3 [⟨some 18,.build 24 #[],none⟩,⟨some 19,.load 33 (.tmp 7),none⟩,⟨none,.store 24 (.tmp 4) (.tmp 18),none⟩,⟨none,.store 33 (.tmp 5) (.tmp 19),none⟩]) (.ret)) (.skip)))) (.seq (.seq (.drawn 4 [⟨some 20,.load 24 (.tmp 2),none⟩,⟨some 21,.load 24 (.tmp 3),none⟩,⟨some 22,.buildSlice 22 1 #[(0,.tmp 21)],none⟩,⟨some 23,.build 24 #[(0,.const (.int .i64 4)),(2,.tmp 22)],none⟩,⟨some 24,.call ⟨.value (.func 76),#[.const (.int .i64 5),.tmp 20,.tmp 23],#[3,24,24]⟩,none⟩,⟨some 25,.load 24 (.tmp 2),none⟩,⟨some 26,.load 24 (.tmp 3),none⟩,⟨some 27,.buildSlice 22 2 #[(0,.tmp 25),(1,.tmp 26)],none⟩,⟨some 28,.call ⟨.value (.func 77),#[.tmp 27],#[22]⟩,none⟩,⟨some 29,.call ⟨.value (.func 75),#[.tmp 24,.tmp 28,.const (.slice none 0 0)],#[24,35,35]⟩,none⟩]) (.cond (.tmp 29) (.seq (.reg [⟨some 30,.build 24 #[],none⟩,⟨some 31,.call ⟨.value (.func 78),#[.const (.int .i64 7),.const (.int .i64 0)],#[3,3]⟩,none⟩,⟨none,.store 24 (.tmp 4) (.tmp 30),none⟩,⟨none,.store 33 (.tmp 5) (.tmp 31),none⟩]) (.ret)) (.skip))) (.seq (.drawn 6 [⟨some 32,.load 24 (.tmp 2),none⟩,⟨some 33,.load 24 (.tmp 3),none⟩,⟨some 34,.buildSlice 22 1 #[(0,.tmp 33)],none⟩,⟨some 35,.call ⟨.value (.func 77),#[.tmp 34],#[22]⟩,none⟩,⟨some 36,.call ⟨.value (.func 42),#[.tmp 32,.tmp 35],#[24,35]⟩,none⟩,⟨some 37,.extract (.tmp 36) 0,none⟩,⟨some 38,.extract (.tmp 36) 1,none⟩,⟨none,.store 24 (.tmp 4) (.tmp 37),none⟩,⟨none,.store 33 (.tmp 5) (.tmp 38),none⟩]) (.ret))))
@[simp] theorem x34_s {C : WC} {e : AE} {s : Store} {K : KS} : type_of% (@X_at C e s K _ _ x34.eq_1) := X_at x34.eq_1
def an34 : Ann := ⟨[(3, .mix3 2 1), (4, .mixz 8), (6, .mixz 7)], [], []⟩
def cx34 (P : Program) (m : Nat) : WC := ⟨P, m, an34⟩
@[simp] theorem cx34_a {P : Program} {m : Nat} : (cx34 P m).P = P ∧ (cx34 P m).m = m ∧ (cx34 P m).A.clsOf 3 = .mix3 2 1 ∧ (cx34 P m).A.clsOf 4 = .mixz 8 ∧ (cx34 P m).A.clsOf 6 = .mixz 7 ∧ (cx34 P m).A.frzOf 3 = [] ∧ (cx34 P m).A.frzOf 4 = [] ∧ (cx34 P m).A.frzOf 6 = [] := ⟨rfl, rfl, rfl, rfl, rfl, rfl, rfl, rfl⟩
instance {P : Program} {m f : Nat} [h : EnT P f] : EnT (cx34 P m).P f := h
theorem chk34 : ∀ c, Try.f34.body = some c → chkC Try.f34.ntmps an34 c = true := by intro c h; obtain rfl := Option.some.inj h; decide +kernel
theorem os34 {args : List PV} {v : PV} (h : X (cx34 Try.prog 0) x34 (argsA 0 args) [] (.fin [.cell 4 24, .cell 5 33] fun v1 s1 => softV (deref s1 6 v1) = v)) (hl : args.length ≤ Try.f34.ntmps := by rw [Try.ntmps34]; simp) : CallOK Try.prog 34 args [] v [] :=
  callXF (m := 0) (cx34 Try.prog 0) x34 rfl rfl (by kernel_rfl) Try.func34 rfl rfl hl mixed (chk34 _ rfl) (by rw [Try.results34]; exact h)

theorem Interpolate_between (f g : Fm) : CallOK Try.prog 34 [.agg (frm f), .agg (frm g)] [] (.tuple [.agg (frm (interV f g).1), .agg [.int .i64 (interV f g).2.1, .int .i64 (interV f g).2.2]]) [] := by
  have hlk := look_between [f, g] (by simp)
  simp only [List.map_cons, List.map_nil] at hlk
  refine os34 ?_
  by_cases h1 : (lookV [f, g]).2.1 = 0
  · obtain ⟨_, h6, hz⟩ := lookV_six h1
    have hn := NamesOf_formula [f, g] (by simp)
    have hn2 := NamesOf_formula [g] (by simp)
    have hp := Project_between f (namesS [g])
    have hs := callOK_soft (args := [.agg (frm (andNot f g)), .list ((namesS [f, g]).map strRow), .nilsl]) (some_between (andNot f g) (namesS [f, g]) [] (by simp; omega)) (.cons .refl (.cons .refl (.cons .nil .nil)))
    have ht := two_between 5 f (.mk 4 ⟨#[]⟩ [g])
    rw [show Fm.mk 5 ⟨#[]⟩ [f, .mk 4 ⟨#[]⟩ [g]] = andNot f g from rfl, frm_eq (Fm.mk 4 _ _)] at ht
    simp only [fm_kind, fm_name, fm_kids, List.map_cons, List.map_nil] at ht
    have hV : interV f g = if someV (andNot f g) (namesS [f, g]) [] = true then (.mk 0 ⟨#[]⟩ [], (7, 0)) else projectV f (namesS [g]) := by unfold interV; rw [if_neg (by simpa using h1)]
    simp only [List.map_cons, List.map_nil] at hn hn2
    rw [hz] at hlk
    generalize interV f g = V at *
    generalize projectV f (namesS [g]) = PV at *
    generalize namesS [f, g] = N at *
    generalize namesS [g] = N2 at *
    generalize andNot f g = A at *
    clear h1 hz
    generalize someV A N [] = b at *
    cases b with
    | true =>
      rw [if_pos rfl] at hV
      subst hV
      rw [frm_eq (Fm.mk 0 _ _)]
      (((try simp (implicitDefEqProofs := false)); (try simp (implicitDefEqProofs := false) (disch := first | assumption | (try simp only [lens]); omega -splitDisjunctions))); all_goals try (repeat' ((first | ((with_reducible first | refine And.intro ?_ ?_ | refine Exists.intro ?_ ?_); first | omega | (simp <;> omega)) | (with_reducible refine spl (And.intro ?_ ?_) <;> intro _)) <;> ((try simp (implicitDefEqProofs := false)); (try simp (implicitDefEqProofs := false) (disch := first | assumption | (try simp only [lens]); omega -splitDisjunctions))))))
      refine CL.giv [4] ?_
      (((try simp (implicitDefEqProofs := false)); (try simp (implicitDefEqProofs := false) (disch := first | assumption | (try simp only [lens]); omega -splitDisjunctions))); all_goals try (repeat' ((first | ((with_reducible first | refine And.intro ?_ ?_ | refine Exists.intro ?_ ?_); first | omega | (simp <;> omega)) | (with_reducible refine spl (And.intro ?_ ?_) <;> intro _) | (refine CL.clo (hlk) ?_) | (refine CM.clo (hlk) ?_) | (refine CD.clo (hlk) ?_) | (refine CL.clo (ht) ?_) | (refine CM.clo (ht) ?_) | (refine CD.clo (ht) ?_) | (refine CL.clo (hn) ?_) | (refine CM.clo (hn) ?_) | (refine CD.clo (hn) ?_) | (refine CL.clo (hs) ?_) | (refine CM.clo (hs) ?_) | (refine CD.clo (hs) ?_) | (refine CL.clo (fault_between 7 0) ?_) | (refine CM.clo (fault_between 7 0) ?_) | (refine CD.clo (fault_between 7 0) ?_)) <;> ((try simp (implicitDefEqProofs := false)); (try simp (implicitDefEqProofs := false) (disch := first | assumption | (try simp only [lens]); omega -splitDisjunctions))))))
      all_goals trace_state
    | false =>
      rw [if_neg (by simp)] at hV
      subst hV
      (((try simp (implicitDefEqProofs := false)); (try simp (implicitDefEqProofs := false) (disch := first | assumption | (try simp only [lens]); omega -splitDisjunctions))); all_goals try (repeat' ((first | ((with_reducible first | refine And.intro ?_ ?_ | refine Exists.intro ?_ ?_); first | omega | (simp <;> omega)) | (with_reducible refine spl (And.intro ?_ ?_) <;> intro _)) <;> ((try simp (implicitDefEqProofs := false)); (try simp (implicitDefEqProofs := false) (disch := first | assumption | (try simp only [lens]); omega -splitDisjunctions))))))
      refine CL.giv [4] ?_
      (((try simp (implicitDefEqProofs := false)); (try simp (implicitDefEqProofs := false) (disch := first | assumption | (try simp only [lens]); omega -splitDisjunctions))); all_goals try (repeat' ((first | ((with_reducible first | refine And.intro ?_ ?_ | refine Exists.intro ?_ ?_); first | omega | (simp <;> omega)) | (with_reducible refine spl (And.intro ?_ ?_) <;> intro _) | (refine CL.clo (hlk) ?_) | (refine CM.clo (hlk) ?_) | (refine CD.clo (hlk) ?_) | (refine CL.clo (ht) ?_) | (refine CM.clo (ht) ?_) | (refine CD.clo (ht) ?_) | (refine CL.clo (hn) ?_) | (refine CM.clo (hn) ?_) | (refine CD.clo (hn) ?_) | (refine CL.clo (hs) ?_) | (refine CM.clo (hs) ?_) | (refine CD.clo (hs) ?_) | (refine CL.clo (hn2) ?_) | (refine CM.clo (hn2) ?_) | (refine CD.clo (hn2) ?_) | (refine CL.clo (hp) ?_) | (refine CM.clo (hp) ?_) | (refine CD.clo (hp) ?_)) <;> ((try simp (implicitDefEqProofs := false)); (try simp (implicitDefEqProofs := false) (disch := first | assumption | (try simp only [lens]); omega -splitDisjunctions))))))
      all_goals trace_state
  · rw [show interV f g = (.mk 0 ⟨#[]⟩ [], (lookV [f, g]).2) from by unfold interV; rw [if_pos (by simpa using h1)]]
    rw [frm_eq (Fm.mk 0 _ _)]
    generalize lookV [f, g] = w at *
    (((try simp (implicitDefEqProofs := false)); (try simp (implicitDefEqProofs := false) (disch := first | assumption | (try simp only [lens]); omega -splitDisjunctions))); all_goals try (repeat' ((first | ((with_reducible first | refine And.intro ?_ ?_ | refine Exists.intro ?_ ?_); first | omega | (simp <;> omega)) | (with_reducible refine spl (And.intro ?_ ?_) <;> intro _)) <;> ((try simp (implicitDefEqProofs := false)); (try simp (implicitDefEqProofs := false) (disch := first | assumption | (try simp only [lens]); omega -splitDisjunctions))))))
    refine CL.giv [4] ?_
    (((try simp (implicitDefEqProofs := false) [h1]); (try simp (implicitDefEqProofs := false) (disch := first | assumption | (try simp only [lens]); omega -splitDisjunctions) [h1])); all_goals try (repeat' ((first | ((with_reducible first | refine And.intro ?_ ?_ | refine Exists.intro ?_ ?_); first | omega | (simp <;> omega)) | (with_reducible refine spl (And.intro ?_ ?_) <;> intro _) | (refine CL.clo (hlk) ?_) | (refine CM.clo (hlk) ?_) | (refine CD.clo (hlk) ?_)) <;> ((try simp (implicitDefEqProofs := false) [h1]); (try simp (implicitDefEqProofs := false) (disch := first | assumption | (try simp only [lens]); omega -splitDisjunctions) [h1])))))
    all_goals trace_state
end Go.Proofs.Ytnoklmapofogeaa
