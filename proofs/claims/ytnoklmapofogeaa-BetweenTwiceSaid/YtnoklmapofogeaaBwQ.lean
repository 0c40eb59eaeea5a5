/-
  law07: common, makes, plainAnswer, betweenFault, none.
-/
import Derived.Test.YtnoklmapofogeaaBwP
namespace Go.Proofs.Ytnoklmapofogeaa
open Go Go.Pv
set_option linter.unusedVariables false
set_option linter.unusedSimpArgs false
set_option maxRecDepth 100000
set_option maxHeartbeats 4000000

theorem filter_snoc {α : Type} {p : α → Bool} {l : List α} {i : Nat} (h : i < l.length) : (l.take (i + 1)).filter p = (l.take i).filter p ++ (if p l[i] = true then [l[i]] else []) := by
  rw [take_snoc h, List.filter_append, List.filter_cons, List.filter_nil]
def x41_T1 : XC := .seq (.reg [⟨some 26,.move (.tmp 5),none⟩,⟨some 4,.assign (.tmp 26),none⟩]) (.ret)
def x41_L0 : XC := .seq (.seq (.reg [⟨some 7,.move (.tmp 6),none⟩,⟨some 8,.move (.tmp 0),none⟩,⟨some 9,.call ⟨.builtin .len,#[.tmp 8],#[35]⟩,none⟩,⟨some 10,.binOp .lss 3 (.tmp 7) (.tmp 9) 3,none⟩]) (.cond (.tmp 10) (.skip) (.exit 0))) (.seq (.block 1 (.seq (.reg [⟨some 13,.move (.tmp 1),none⟩,⟨some 14,.move (.tmp 0),none⟩,⟨some 15,.move (.tmp 6),none⟩,⟨some 16,.indexAddr 35 (.tmp 14) (.tmp 15),none⟩,⟨some 17,.load 9 (.tmp 16),none⟩,⟨some 18,.call ⟨.value (.func 59),#[.tmp 13,.tmp 17],#[35,9]⟩,none⟩]) (.cond (.tmp 18) (.reg [⟨some 19,.move (.tmp 5),none⟩,⟨some 20,.move (.tmp 0),none⟩,⟨some 21,.move (.tmp 6),none⟩,⟨some 22,.indexAddr 35 (.tmp 20) (.tmp 21),none⟩,⟨some 23,.load 9 (.tmp 22),none⟩,⟨some 24,.buildSlice 35 1 #[(0,.tmp 23)],none⟩,⟨some 25,.call ⟨.builtin .append,#[.tmp 19,.tmp 24],#[35,35]⟩,none⟩,⟨some 5,.assign (.tmp 25),none⟩]) (.skip)))) (.reg [⟨some 11,.move (.tmp 6),none⟩,⟨some 12,.binOp .add 3 (.tmp 11) (.const (.int .i64 1)) 3,none⟩,⟨some 6,.assign (.tmp 12),none⟩]))
def x41 : XC := .seq (.reg [⟨some 4,.assign (.const (.slice none 0 0)),none⟩]) (.seq (.reg [⟨some 5,.assign (.const (.slice none 0 0)),none⟩]) (.seq (.seq (.reg [⟨some 6,.assign (.const (.int .i64 0)),none⟩]) (.bloop 0 x41_L0)) (x41_T1)))
@[simp] theorem x41_s {C : WC} {e : AE} {s : Store} {K : KS} : type_of% (@X_at C e s K _ _ x41_T1.eq_1) ∧ type_of% (@X_at C e s K _ _ x41_L0.eq_1) ∧ type_of% (@X_at C e s K _ _ x41.eq_1) := ⟨X_at x41_T1.eq_1, X_at x41_L0.eq_1, X_at x41.eq_1⟩
def an41 : Ann := ⟨[], [(0, [(5, none, 1)], [0, 1, 5, 6], [5])], []⟩
def cx41 (P : Program) (m : Nat) : WC := ⟨P, m, an41⟩
@[simp] theorem cx41_a {P : Program} {m : Nat} : (cx41 P m).P = P ∧ (cx41 P m).m = m ∧ (cx41 P m).A.loopOf 0 = ([(5, none, 1)], [0, 1, 5, 6], [5]) := ⟨rfl, rfl, rfl⟩
instance {P : Program} {m f : Nat} [h : EnT P f] : EnT (cx41 P m).P f := h
theorem chk41 : ∀ c, Try.f41.body = some c → chkC Try.f41.ntmps an41 c = true := by intro c h; obtain rfl := Option.some.inj h; decide +kernel
theorem os41 {args : List PV} {v : PV} (h : X (cx41 Try.prog 0) x41 (argsA 0 args) [] (.fin [.tmp 4] fun v1 s1 => softV (deref s1 6 v1) = v)) (hl : args.length ≤ Try.f41.ntmps := by rw [Try.ntmps41]; simp) : CallOK Try.prog 41 args [] v [] :=
  callXF (m := 0) (cx41 Try.prog 0) x41 rfl rfl (by kernel_rfl) Try.func41 rfl rfl hl mixed (chk41 _ rfl) (by rw [Try.results41]; exact h)

theorem common_law (a b : List ByteArray) (ha : a.length * 16 ≤ 140737488351232) : CallOK Try.prog 41 [.list (a.map strRow), .list (b.map strRow)] [] (.list ((a.filter fun x => memB x b).map strRow)) [] := by
  refine os41 ?_
  (((try simp (implicitDefEqProofs := false)); (try simp (implicitDefEqProofs := false) (disch := first | assumption | (try simp only [lens]); omega -splitDisjunctions))); all_goals try (repeat' ((first | ((with_reducible first | refine And.intro ?_ ?_ | refine Exists.intro ?_ ?_); first | omega | (simp <;> omega)) | (with_reducible refine spl (And.intro ?_ ?_) <;> intro _)) <;> ((try simp (implicitDefEqProofs := false)); (try simp (implicitDefEqProofs := false) (disch := first | assumption | (try simp only [lens]); omega -splitDisjunctions))))))
  refine W_of fun Q hQ => ?_
  have main : ∀ r i, i + r = a.length → Q [(0, .list (a.map strRow)), (1, .list (b.map strRow)), (5, .sl 0 0 ((a.take i).filter fun x => memB x b).length), (6, .int .i64 (i : Int))] [.rows 1 (((a.take i).filter fun x => memB x b).map strRow)] := by
    intro r
    induction r with
    | zero =>
      intro i hi
      rw [List.take_of_length_le (by omega)]
      generalize (a.filter fun x => memB x b) = F at *
      apply hQ
      clear hQ
      (((try simp (implicitDefEqProofs := false)); (try simp (implicitDefEqProofs := false) (disch := first | assumption | (try simp only [lens]); omega -splitDisjunctions))); all_goals try (repeat' ((first | ((with_reducible first | refine And.intro ?_ ?_ | refine Exists.intro ?_ ?_); first | omega | (simp <;> omega)) | (with_reducible refine spl (And.intro ?_ ?_) <;> intro _)) <;> ((try simp (implicitDefEqProofs := false)); (try simp (implicitDefEqProofs := false) (disch := first | assumption | (try simp only [lens]); omega -splitDisjunctions))))))
    | succ r ih =>
      intro i hi
      have hia : i < a.length := by omega
      have ih := ih (i + 1) (by omega)
      have hF : ((a.take i).filter fun x => memB x b).length ≤ i := Nat.le_trans (List.length_filter_le _ _) (by simp; omega)
      rw [filter_snoc hia] at ih
      have ht := HasText_ref b a[i]
      generalize ((a.take i).filter fun x => memB x b) = F at *
      generalize memB a[i] b = t at *
      apply hQ
      clear hQ
      cases t
      · simp only [Bool.false_eq_true, if_false, List.append_nil] at ih
        (((try simp (implicitDefEqProofs := false) [hia]); (try simp (implicitDefEqProofs := false) (disch := first | assumption | (try simp only [lens]); omega -splitDisjunctions) [hia])); all_goals try (repeat' ((first | ((with_reducible first | refine And.intro ?_ ?_ | refine Exists.intro ?_ ?_); first | omega | (simp <;> omega)) | (with_reducible refine spl (And.intro ?_ ?_) <;> intro _) | (refine CL.clo (ht) ?_) | (refine CM.clo (ht) ?_) | (refine CD.clo (ht) ?_)) <;> ((try simp (implicitDefEqProofs := false) [hia]); (try simp (implicitDefEqProofs := false) (disch := first | assumption | (try simp only [lens]); omega -splitDisjunctions) [hia])))))
        all_goals first | exact ih | (refine at2 ih ?_ ?_ <;> simp; done) | (exfalso; first | omega | (simp_all; done) | (simp_all; omega))
      · simp only [if_true] at ih
        (((try simp (implicitDefEqProofs := false) [hia]); (try simp (implicitDefEqProofs := false) (disch := first | assumption | (try simp only [lens]); omega -splitDisjunctions) [hia])); all_goals try (repeat' ((first | ((with_reducible first | refine And.intro ?_ ?_ | refine Exists.intro ?_ ?_); first | omega | (simp <;> omega)) | (with_reducible refine spl (And.intro ?_ ?_) <;> intro _) | (refine CL.clo (ht) ?_) | (refine CM.clo (ht) ?_) | (refine CD.clo (ht) ?_)) <;> ((try simp (implicitDefEqProofs := false) [hia]); (try simp (implicitDefEqProofs := false) (disch := first | assumption | (try simp only [lens]); omega -splitDisjunctions) [hia])))))
        all_goals first | exact ih | (refine at2 ih ?_ ?_ <;> simp; done) | (exfalso; first | omega | (simp_all; done) | (simp_all; omega))
  refine at2 (main _ 0 (Nat.zero_add _)) ?_ ?_ <;> simp
def x39 : XC := .seq (.reg [⟨some 1,.box 24 (.tmp 0),none⟩,⟨some 2,.assign (.const (.bool false)),none⟩]) (.seq (.reg [⟨some 3,.fieldAddr 24 (.tmp 1) 0,none⟩,⟨some 4,.load 3 (.tmp 3),none⟩,⟨some 5,.binOp .eql 3 (.tmp 4) (.const (.int .i64 0)) 3,none⟩,⟨some 6,.move (.tmp 5),none⟩,⟨some 7,.fieldAddr 24 (.tmp 1) 1,some (some 6,true)⟩,⟨some 8,.load 9 (.tmp 7),some (some 6,true)⟩,⟨some 9,.binOp .eql 9 (.tmp 8) (.const (.string ⟨#[]⟩)) 9,some (some 6,true)⟩,⟨some 10,.pick (.tmp 6) (.tmp 9) (.const (.bool false)),none⟩,⟨some 11,.move (.tmp 10),none⟩,⟨some 12,.fieldAddr 24 (.tmp 1) 2,some (some 11,true)⟩,⟨some 13,.load 22 (.tmp 12),some (some 11,true)⟩,⟨some 14,.call ⟨.builtin .len,#[.tmp 13],#[22]⟩,some (some 11,true)⟩,⟨some 15,.binOp .eql 3 (.tmp 14) (.const (.int .i64 0)) 3,some (some 11,true)⟩,⟨some 16,.pick (.tmp 11) (.tmp 15) (.const (.bool false)),none⟩,⟨some 2,.assign (.tmp 16),none⟩]) (.ret))
@[simp] theorem x39_s {C : WC} {e : AE} {s : Store} {K : KS} : type_of% (@X_at C e s K _ _ x39.eq_1) := X_at x39.eq_1
def an39 : Ann := ⟨[], [], []⟩
def cx39 (P : Program) (m : Nat) : WC := ⟨P, m, an39⟩
@[simp] theorem cx39_a {P : Program} {m : Nat} : (cx39 P m).P = P ∧ (cx39 P m).m = m := ⟨rfl, rfl⟩
instance {P : Program} {m f : Nat} [h : EnT P f] : EnT (cx39 P m).P f := h
theorem chk39 : ∀ c, Try.f39.body = some c → chkC Try.f39.ntmps an39 c = true := by intro c h; obtain rfl := Option.some.inj h; decide +kernel
theorem op39 {args : List PV} {v : PV} (h : X (cx39 Try.prog 0) x39 (argsA 0 args) [] (.fin [.tmp 2] fun v1 s1 => deref s1 6 v1 = v)) (hl : args.length ≤ Try.f39.ntmps := by rw [Try.ntmps39]; simp) : CallOK Try.prog 39 args [] v [] :=
  callX (m := 0) (cx39 Try.prog 0) x39 rfl rfl (by kernel_rfl) Try.func39 rfl rfl hl mixed (chk39 _ rfl) (by rw [Try.results39]; exact h)

theorem none_law (f : Fm) : CallOK Try.prog 39 [.agg (frm f)] [] (.bool (decide (f.kind = 0) && decide (f.name = ⟨#[]⟩) && decide (f.kids.length = 0))) [] := by
  refine op39 ?_
  by_cases h1 : f.kind = 0
  · by_cases h2 : f.name = ⟨#[]⟩
    · by_cases h3 : f.kids.length = 0
      · (((try simp (implicitDefEqProofs := false) [h1, h2, h3]); (try simp (implicitDefEqProofs := false) (disch := first | assumption | (try simp only [lens]); omega -splitDisjunctions) [h1, h2, h3])); all_goals try (repeat' ((first | ((with_reducible first | refine And.intro ?_ ?_ | refine Exists.intro ?_ ?_); first | omega | (simp <;> omega)) | (with_reducible refine spl (And.intro ?_ ?_) <;> intro _)) <;> ((try simp (implicitDefEqProofs := false) [h1, h2, h3]); (try simp (implicitDefEqProofs := false) (disch := first | assumption | (try simp only [lens]); omega -splitDisjunctions) [h1, h2, h3])))))
      · have h3i : ¬ (f.kids.length : Int) = 0 := by omega
        (((try simp (implicitDefEqProofs := false) [h1, h2, h3]); (try simp (implicitDefEqProofs := false) (disch := first | assumption | (try simp only [lens]); omega -splitDisjunctions) [h1, h2, h3])); all_goals try (repeat' ((first | ((with_reducible first | refine And.intro ?_ ?_ | refine Exists.intro ?_ ?_); first | omega | (simp <;> omega)) | (with_reducible refine spl (And.intro ?_ ?_) <;> intro _)) <;> ((try simp (implicitDefEqProofs := false) [h1, h2, h3]); (try simp (implicitDefEqProofs := false) (disch := first | assumption | (try simp only [lens]); omega -splitDisjunctions) [h1, h2, h3])))))
    · (((try simp (implicitDefEqProofs := false) [h1, h2]); (try simp (implicitDefEqProofs := false) (disch := first | assumption | (try simp only [lens]); omega -splitDisjunctions) [h1, h2])); all_goals try (repeat' ((first | ((with_reducible first | refine And.intro ?_ ?_ | refine Exists.intro ?_ ?_); first | omega | (simp <;> omega)) | (with_reducible refine spl (And.intro ?_ ?_) <;> intro _)) <;> ((try simp (implicitDefEqProofs := false) [h1, h2]); (try simp (implicitDefEqProofs := false) (disch := first | assumption | (try simp only [lens]); omega -splitDisjunctions) [h1, h2])))))
  · (((try simp (implicitDefEqProofs := false) [h1]); (try simp (implicitDefEqProofs := false) (disch := first | assumption | (try simp only [lens]); omega -splitDisjunctions) [h1])); all_goals try (repeat' ((first | ((with_reducible first | refine And.intro ?_ ?_ | refine Exists.intro ?_ ?_); first | omega | (simp <;> omega)) | (with_reducible refine spl (And.intro ?_ ?_) <;> intro _)) <;> ((try simp (implicitDefEqProofs := false) [h1]); (try simp (implicitDefEqProofs := false) (disch := first | assumption | (try simp only [lens]); omega -splitDisjunctions) [h1])))))
theorem none_zero : CallOK Try.prog 39 [.agg (frm (.mk 0 ⟨#[]⟩ []))] [] (.bool true) [] := by
  have h := none_law (.mk 0 ⟨#[]⟩ [])
  simpa using h
/-- is g true in all rows in which f is? -/
def makesB (f g : Fm) (ns : List ByteArray) : Bool := (List.range (2 ^ ns.length)).all fun k => !tv (fun x => memB x (rowL ns k)) f || tv (fun x => memB x (rowL ns k)) g
def x37_L0 : XC := .seq (.seq (.reg [⟨some 9,.move (.tmp 7),none⟩,⟨some 10,.move (.tmp 2),none⟩,⟨some 11,.call ⟨.builtin .len,#[.tmp 10],#[35]⟩,none⟩,⟨some 12,.binOp .shl 3 (.const (.int .i64 1)) (.tmp 11) 3,none⟩,⟨some 13,.binOp .lss 3 (.tmp 9) (.tmp 12) 3,none⟩]) (.cond (.tmp 13) (.skip) (.exit 0))) (.seq (.block 1 (.seq (.reg [⟨some 16,.move (.tmp 2),none⟩,⟨some 17,.move (.tmp 7),none⟩,⟨some 18,.call ⟨.value (.func 43),#[.tmp 16,.tmp 17],#[35,3]⟩,none⟩,⟨some 8,.assign (.tmp 18),none⟩]) (.seq (.reg [⟨some 19,.load 24 (.tmp 3),none⟩,⟨some 20,.move (.tmp 8),none⟩,⟨some 21,.call ⟨.value (.func 44),#[.tmp 19,.tmp 20],#[24,35]⟩,none⟩,⟨some 22,.move (.tmp 21),none⟩,⟨some 23,.load 24 (.tmp 4),some (some 22,true)⟩,⟨some 24,.move (.tmp 8),some (some 22,true)⟩,⟨some 25,.call ⟨.value (.func 44),#[.tmp 23,.tmp 24],#[24,35]⟩,some (some 22,true)⟩,⟨some 26,.unOp .not 4 (.tmp 25),some (some 22,true)⟩,⟨some 27,.pick (.tmp 22) (.tmp 26) (.const (.bool false)),none⟩]) (.cond (.tmp 27) (.seq (.reg [⟨some 6,.assign (.const (.bool false)),none⟩]) (.ret)) (.skip))))) (.reg [⟨some 14,.move (.tmp 7),none⟩,⟨some 15,.binOp .add 3 (.tmp 14) (.const (.int .i64 1)) 3,none⟩,⟨some 7,.assign (.tmp 15),none⟩]))
def x37 : XC := .seq (.reg [⟨some 3,.box 24 (.tmp 0),none⟩,⟨some 4,.box 24 (.tmp 1),none⟩,⟨some 6,.assign (.const (.bool false)),none⟩]) (.seq (.seq (.reg [⟨some 7,.assign (.const (.int .i64 0)),none⟩]) (.bloop 0 x37_L0)) (.seq (.reg [⟨some 6,.assign (.const (.bool true)),none⟩]) (.ret)))
@[simp] theorem x37_s {C : WC} {e : AE} {s : Store} {K : KS} : type_of% (@X_at C e s K _ _ x37_L0.eq_1) ∧ type_of% (@X_at C e s K _ _ x37.eq_1) := ⟨X_at x37_L0.eq_1, X_at x37.eq_1⟩
def an37 : Ann := ⟨[], [(0, [], [2, 3, 4, 7], [6])], []⟩
def cx37 (P : Program) (m : Nat) : WC := ⟨P, m, an37⟩
@[simp] theorem cx37_a {P : Program} {m : Nat} : (cx37 P m).P = P ∧ (cx37 P m).m = m ∧ (cx37 P m).A.loopOf 0 = ([], [2, 3, 4, 7], [6]) := ⟨rfl, rfl, rfl⟩
instance {P : Program} {m f : Nat} [h : EnT P f] : EnT (cx37 P m).P f := h
theorem chk37 : ∀ c, Try.f37.body = some c → chkC Try.f37.ntmps an37 c = true := by intro c h; obtain rfl := Option.some.inj h; decide +kernel
theorem op37 {args : List PV} {v : PV} (h : X (cx37 Try.prog 0) x37 (argsA 0 args) [] (.fin [.tmp 6] fun v1 s1 => deref s1 6 v1 = v)) (hl : args.length ≤ Try.f37.ntmps := by rw [Try.ntmps37]; simp) : CallOK Try.prog 37 args [] v [] :=
  callX (m := 0) (cx37 Try.prog 0) x37 rfl rfl (by kernel_rfl) Try.func37 rfl rfl hl mixed (chk37 _ rfl) (by rw [Try.results37]; exact h)

theorem makes_law (f g : Fm) (hf : Pl f) (hg : Pl g) (ns : List ByteArray) (hn : ns.length ≤ 10) : CallOK Try.prog 37 [.agg (frm f), .agg (frm g), .list (ns.map strRow)] [] (.bool (makesB f g ns)) [] := by
  have hall : ∀ B, makesB f g ns = B → ((∀ k, k < 2 ^ ns.length → tv (fun x => memB x (rowL ns k)) f = true → tv (fun x => memB x (rowL ns k)) g = true) → B = true) ∧ (∀ k, k < 2 ^ ns.length → tv (fun x => memB x (rowL ns k)) f = true → tv (fun x => memB x (rowL ns k)) g = false → B = false) := by
    rintro B rfl
    unfold makesB
    constructor
    · intro h
      rw [List.all_eq_true]
      intro k hk
      rw [List.mem_range] at hk
      have := h k hk
      cases h1 : tv (fun x => memB x (rowL ns k)) f <;> simp_all
    · intro k hk h1 h2
      rw [List.all_eq_false]
      exact ⟨k, List.mem_range.2 hk, by simp [h1, h2]⟩
  have hall := hall _ rfl
  generalize makesB f g ns = B at *
  have hM : 1 ≤ 2 ^ ns.length ∧ 2 ^ ns.length ≤ 1024 := ⟨Nat.one_le_two_pow, Nat.le_trans (Nat.pow_le_pow_right (by decide) hn) (by decide)⟩
  have hsh := shl_nat ns.length (by omega)
  have hl0 : ¬ ((ns.length : Int) < 0) := by omega
  generalize 2 ^ ns.length = Z at *
  refine op37 ?_
  (((try simp (implicitDefEqProofs := false) [hsh, hl0]); (try simp (implicitDefEqProofs := false) (disch := first | assumption | (try simp only [lens]); omega -splitDisjunctions) [hsh, hl0])); all_goals try (repeat' ((first | ((with_reducible first | refine And.intro ?_ ?_ | refine Exists.intro ?_ ?_); first | omega | (simp <;> omega)) | (with_reducible refine spl (And.intro ?_ ?_) <;> intro _)) <;> ((try simp (implicitDefEqProofs := false) [hsh, hl0]); (try simp (implicitDefEqProofs := false) (disch := first | assumption | (try simp only [lens]); omega -splitDisjunctions) [hsh, hl0])))))
  refine W_of fun Q hQ => ?_
  have main : ∀ r k, k + r = Z → (∀ j, j < k → tv (fun x => memB x (rowL ns j)) f = true → tv (fun x => memB x (rowL ns j)) g = true) → Q [(2, .list (ns.map strRow)), (3, .ptr 0 0 0), (4, .ptr 1 0 0), (7, .int .i64 (k : Int))] [.rows 3 [frm f], .rows 3 [frm g]] := by
    intro r
    induction r with
    | zero =>
      intro k hk hb
      obtain rfl : k = Z := by omega
      obtain rfl := hall.1 hb
      apply hQ
      clear hQ
      (((try simp (implicitDefEqProofs := false) [hsh, hl0]); (try simp (implicitDefEqProofs := false) (disch := first | assumption | (try simp only [lens]); omega -splitDisjunctions) [hsh, hl0])); all_goals try (repeat' ((first | ((with_reducible first | refine And.intro ?_ ?_ | refine Exists.intro ?_ ?_); first | omega | (simp <;> omega)) | (with_reducible refine spl (And.intro ?_ ?_) <;> intro _)) <;> ((try simp (implicitDefEqProofs := false) [hsh, hl0]); (try simp (implicitDefEqProofs := false) (disch := first | assumption | (try simp only [lens]); omega -splitDisjunctions) [hsh, hl0])))))
    | succ r ih =>
      intro k hk hb
      have hkZ : k < Z := by omega
      have ih := ih (k + 1) (by omega)
      have hro := Row_ref ns (by omega) k (by omega)
      have h1 := True_ref (rowL ns k) f hf
      have h2 := True_ref (rowL ns k) g hg
      have hno := hall.2 k hkZ
      have ih := fun hc => ih fun j hj => by
        by_cases e : j = k
        · subst e; exact hc
        · exact hb j (by omega)
      clear hall hb
      generalize tv (fun x => memB x (rowL ns k)) f = x at *
      generalize tv (fun x => memB x (rowL ns k)) g = y at *
      generalize rowL ns k = R at *
      apply hQ
      clear hQ
      cases x
      · have ih := ih (by simp)
        (((try simp (implicitDefEqProofs := false) [hsh, hl0, hkZ]); (try simp (implicitDefEqProofs := false) (disch := first | assumption | (try simp only [lens]); omega -splitDisjunctions) [hsh, hl0, hkZ])); all_goals try (repeat' ((first | ((with_reducible first | refine And.intro ?_ ?_ | refine Exists.intro ?_ ?_); first | omega | (simp <;> omega)) | (with_reducible refine spl (And.intro ?_ ?_) <;> intro _) | (refine CL.clo (hro) ?_) | (refine CM.clo (hro) ?_) | (refine CD.clo (hro) ?_) | (refine CL.clo (h1) ?_) | (refine CM.clo (h1) ?_) | (refine CD.clo (h1) ?_) | (refine CL.clo (h2) ?_) | (refine CM.clo (h2) ?_) | (refine CD.clo (h2) ?_)) <;> ((try simp (implicitDefEqProofs := false) [hsh, hl0, hkZ]); (try simp (implicitDefEqProofs := false) (disch := first | assumption | (try simp only [lens]); omega -splitDisjunctions) [hsh, hl0, hkZ])))))
        all_goals first | exact ih | (refine at2 ih ?_ ?_ <;> simp; done) | (exfalso; first | omega | (simp_all; done) | (simp_all; omega))
      · cases y
        · obtain rfl := hno rfl rfl
          (((try simp (implicitDefEqProofs := false) [hsh, hl0, hkZ]); (try simp (implicitDefEqProofs := false) (disch := first | assumption | (try simp only [lens]); omega -splitDisjunctions) [hsh, hl0, hkZ])); all_goals try (repeat' ((first | ((with_reducible first | refine And.intro ?_ ?_ | refine Exists.intro ?_ ?_); first | omega | (simp <;> omega)) | (with_reducible refine spl (And.intro ?_ ?_) <;> intro _) | (refine CL.clo (hro) ?_) | (refine CM.clo (hro) ?_) | (refine CD.clo (hro) ?_) | (refine CL.clo (h1) ?_) | (refine CM.clo (h1) ?_) | (refine CD.clo (h1) ?_) | (refine CL.clo (h2) ?_) | (refine CM.clo (h2) ?_) | (refine CD.clo (h2) ?_)) <;> ((try simp (implicitDefEqProofs := false) [hsh, hl0, hkZ]); (try simp (implicitDefEqProofs := false) (disch := first | assumption | (try simp only [lens]); omega -splitDisjunctions) [hsh, hl0, hkZ])))))
        · have ih := ih (by simp)
          (((try simp (implicitDefEqProofs := false) [hsh, hl0, hkZ]); (try simp (implicitDefEqProofs := false) (disch := first | assumption | (try simp only [lens]); omega -splitDisjunctions) [hsh, hl0, hkZ])); all_goals try (repeat' ((first | ((with_reducible first | refine And.intro ?_ ?_ | refine Exists.intro ?_ ?_); first | omega | (simp <;> omega)) | (with_reducible refine spl (And.intro ?_ ?_) <;> intro _) | (refine CL.clo (hro) ?_) | (refine CM.clo (hro) ?_) | (refine CD.clo (hro) ?_) | (refine CL.clo (h1) ?_) | (refine CM.clo (h1) ?_) | (refine CD.clo (h1) ?_) | (refine CL.clo (h2) ?_) | (refine CM.clo (h2) ?_) | (refine CD.clo (h2) ?_)) <;> ((try simp (implicitDefEqProofs := false) [hsh, hl0, hkZ]); (try simp (implicitDefEqProofs := false) (disch := first | assumption | (try simp only [lens]); omega -splitDisjunctions) [hsh, hl0, hkZ])))))
          all_goals first | exact ih | (refine at2 ih ?_ ?_ <;> simp; done) | (exfalso; first | omega | (simp_all; done) | (simp_all; omega))
  all_goals first | exact main _ 0 (Nat.zero_add _) (fun j hj => by omega) | (refine at2 main _ 0 (Nat.zero_add _) (fun j hj => by omega) ?_ ?_ <;> simp; done) | (exfalso; first | omega | (simp_all; done) | (simp_all; omega))
def x40_L0 : XC := .seq (.seq (.reg [⟨some 14,.move (.tmp 6),none⟩,⟨some 15,.move (.tmp 5),none⟩,⟨some 16,.call ⟨.builtin .len,#[.tmp 15],#[22]⟩,none⟩,⟨some 17,.binOp .lss 3 (.tmp 14) (.tmp 16) 3,none⟩]) (.cond (.tmp 17) (.skip) (.exit 0))) (.seq (.block 1 (.seq (.seq (.drawn 9 [⟨some 20,.move (.tmp 5),none⟩,⟨some 21,.move (.tmp 6),none⟩,⟨some 22,.indexAddr 22 (.tmp 20) (.tmp 21),none⟩,⟨some 23,.fieldAddr 24 (.tmp 22) 0,none⟩,⟨some 24,.load 3 (.tmp 23),none⟩,⟨some 25,.binOp .lss 3 (.tmp 24) (.const (.int .i64 1)) 3,none⟩,⟨some 26,.move (.tmp 25),none⟩,⟨some 27,.move (.tmp 5),some (some 26,false)⟩,⟨some 28,.move (.tmp 6),some (some 26,false)⟩,⟨some 29,.indexAddr 22 (.tmp 27) (.tmp 28),some (some 26,false)⟩,⟨some 30,.fieldAddr 24 (.tmp 29) 0,some (some 26,false)⟩,⟨some 31,.load 3 (.tmp 30),some (some 26,false)⟩,⟨some 32,.binOp .gtr 3 (.tmp 31) (.const (.int .i64 7)) 3,some (some 26,false)⟩,⟨some 33,.pick (.tmp 26) (.const (.bool true)) (.tmp 32),none⟩,⟨some 34,.move (.tmp 33),none⟩,⟨some 35,.move (.tmp 5),some (some 34,false)⟩,⟨some 36,.move (.tmp 6),some (some 34,false)⟩,⟨some 37,.indexAddr 22 (.tmp 35) (.tmp 36),some (some 34,false)⟩,⟨some 38,.fieldAddr 24 (.tmp 37) 2,some (some 34,false)⟩,⟨some 39,.load 22 (.tmp 38),some (some 34,false)⟩,⟨some 40,.call ⟨.builtin .len,#[.tmp 39],#[22]⟩,some (some 34,false)⟩,⟨some 41,.move (.tmp 5),some (some 34,false)⟩,⟨some 42,.move (.tmp 6),some (some 34,false)⟩,⟨some 43,.indexAddr 22 (.tmp 41) (.tmp 42),some (some 34,false)⟩,⟨some 44,.fieldAddr 24 (.tmp 43) 0,some (some 34,false)⟩,⟨some 45,.load 3 (.tmp 44),some (some 34,false)⟩,⟨some 46,.call ⟨.value (.func 79),#[.tmp 45],#[3]⟩,some (some 34,false)⟩,⟨some 47,.binOp .neq 3 (.tmp 40) (.tmp 46) 3,some (some 34,false)⟩,⟨some 48,.pick (.tmp 34) (.const (.bool true)) (.tmp 47),none⟩]) (.cond (.tmp 48) (.seq (.reg [⟨some 4,.assign (.const (.bool false)),none⟩]) (.ret)) (.skip))) (.seq (.reg [⟨some 49,.move (.tmp 5),none⟩,⟨some 50,.move (.tmp 6),none⟩,⟨some 51,.indexAddr 22 (.tmp 49) (.tmp 50),none⟩,⟨some 52,.fieldAddr 24 (.tmp 51) 0,none⟩,⟨some 53,.load 3 (.tmp 52),none⟩,⟨some 54,.binOp .eql 3 (.tmp 53) (.const (.int .i64 1)) 3,none⟩,⟨some 55,.move (.tmp 54),none⟩,⟨some 56,.move (.tmp 1),some (some 55,true)⟩,⟨some 57,.move (.tmp 5),some (some 55,true)⟩,⟨some 58,.move (.tmp 6),some (some 55,true)⟩,⟨some 59,.indexAddr 22 (.tmp 57) (.tmp 58),some (some 55,true)⟩,⟨some 60,.fieldAddr 24 (.tmp 59) 1,some (some 55,true)⟩,⟨some 61,.load 9 (.tmp 60),some (some 55,true)⟩,⟨some 62,.call ⟨.value (.func 59),#[.tmp 56,.tmp 61],#[35,9]⟩,some (some 55,true)⟩,⟨some 63,.unOp .not 4 (.tmp 62),some (some 55,true)⟩,⟨some 64,.pick (.tmp 55) (.tmp 63) (.const (.bool false)),none⟩,⟨some 65,.move (.tmp 64),none⟩,⟨some 66,.move (.tmp 5),some (some 65,false)⟩,⟨some 67,.move (.tmp 6),some (some 65,false)⟩,⟨some 68,.indexAddr 22 (.tmp 66) (.tmp 67),some (some 65,false)⟩,⟨some 69,.fieldAddr 24 (.tmp 68) 0,some (some 65,false)⟩,⟨some 70,.load 3 (.tmp 69),some (some 65,false)⟩,⟨some 71,.binOp .neq 3 (.tmp 70) (.const (.int .i64 1)) 3,some (some 65,false)⟩,⟨some 72,.move (.tmp 71),some (some 65,false)⟩,⟨some 73,.move (.tmp 5),some (some 72,true)⟩,⟨some 74,.move (.tmp 6),some (some 72,true)⟩,⟨some 75,.indexAddr 22 (.tmp 73) (.tmp 74),some (some 72,true)⟩,⟨some 76,.fieldAddr 24 (.tmp 75) 1,some (some 72,true)⟩,⟨some 77,.load 9 (.tmp 76),some (some 72,true)⟩,⟨some 78,.binOp .neq 9 (.tmp 77) (.const (.string ⟨#[]⟩)) 9,some (some 72,true)⟩,⟨some 79,.pick (.tmp 72) (.tmp 78) (.const (.bool false)),some (some 65,false)⟩,⟨some 80,.pick (.tmp 65) (.const (.bool true)) (.tmp 79),none⟩]) (.cond (.tmp 80) (.seq (.reg [⟨some 4,.assign (.const (.bool false)),none⟩]) (.ret)) (.skip))))) (.reg [⟨some 18,.move (.tmp 6),none⟩,⟨some 19,.binOp .add 3 (.tmp 18) (.const (.int .i64 1)) 3,none⟩,⟨some 6,.assign (.tmp 19),none⟩]))
def x40 : XC := .seq (.reg [⟨some 2,.box 24 (.tmp 0),none⟩,⟨some 4,.assign (.const (.bool false)),none⟩]) (.seq (.seq (.reg [⟨some 7,.load 24 (.tmp 2),none⟩,⟨some 8,.call ⟨.value (.func 20),#[.tmp 7,.const (.int .i64 0)],#[24,3]⟩,none⟩]) (.cond (.tmp 8) (.seq (.reg [⟨some 4,.assign (.const (.bool false)),none⟩]) (.ret)) (.skip))) (.seq (.reg [⟨some 9,.load 24 (.tmp 2),none⟩,⟨some 10,.call ⟨.value (.func 62),#[.tmp 9,.const (.int .i64 20001)],#[24,3]⟩,none⟩,⟨some 5,.assign (.tmp 10),none⟩]) (.seq (.seq (.reg [⟨some 11,.move (.tmp 5),none⟩,⟨some 12,.call ⟨.builtin .len,#[.tmp 11],#[22]⟩,none⟩,⟨some 13,.binOp .gtr 3 (.tmp 12) (.const (.int .i64 20000)) 3,none⟩]) (.cond (.tmp 13) (.seq (.reg [⟨some 4,.assign (.const (.bool false)),none⟩]) (.ret)) (.skip))) (.seq (.seq (.reg [⟨some 6,.assign (.const (.int .i64 0)),none⟩]) (.bloop 0 x40_L0)) (.seq (.reg [⟨some 4,.assign (.const (.bool true)),none⟩]) (.ret))))))
@[simp] theorem x40_s {C : WC} {e : AE} {s : Store} {K : KS} : type_of% (@X_at C e s K _ _ x40_L0.eq_1) ∧ type_of% (@X_at C e s K _ _ x40.eq_1) := ⟨X_at x40_L0.eq_1, X_at x40.eq_1⟩
def an40 : Ann := ⟨[(9, .mix 27)], [(0, [], [1, 5, 6], [4])], []⟩
def cx40 (P : Program) (m : Nat) : WC := ⟨P, m, an40⟩
@[simp] theorem cx40_a {P : Program} {m : Nat} : (cx40 P m).P = P ∧ (cx40 P m).m = m ∧ (cx40 P m).A.clsOf 9 = .mix 27 ∧ (cx40 P m).A.frzOf 9 = [] ∧ (cx40 P m).A.loopOf 0 = ([], [1, 5, 6], [4]) := ⟨rfl, rfl, rfl, rfl, rfl⟩
instance {P : Program} {m f : Nat} [h : EnT P f] : EnT (cx40 P m).P f := h
theorem chk40 : ∀ c, Try.f40.body = some c → chkC Try.f40.ntmps an40 c = true := by intro c h; obtain rfl := Option.some.inj h; decide +kernel
theorem op40 {args : List PV} {v : PV} (h : X (cx40 Try.prog 0) x40 (argsA 0 args) [] (.fin [.tmp 4] fun v1 s1 => deref s1 6 v1 = v)) (hl : args.length ≤ Try.f40.ntmps := by rw [Try.ntmps40]; simp) : CallOK Try.prog 40 args [] v [] :=
  callX (m := 0) (cx40 Try.prog 0) x40 rfl rfl (by kernel_rfl) Try.func40 rfl rfl hl mixed (chk40 _ rfl) (by rw [Try.results40]; exact h)

theorem plainAnswer_law (f : Fm) (ns : List ByteArray) (h : Good ns 1000 f) : CallOK Try.prog 40 [.agg (frm f), .list (ns.map strRow)] [] (.bool true) [] := by
  have hva := vast_ref f 0 (by omega) (by omega) []
  rw [vast_small f 0 h.1.1 (by have := h.2.2; omega)] at hva
  have hw := walk_ref f 20001 (by decide) (by decide) []
  have hL : walkL f 20001 = pre f := by rw [show (20001 : Int) = ((20001 : Nat) : Int) from rfl, walk_take, List.take_of_length_le (by have := h.2.2; omega)]
  rw [hL] at hw
  have hall : ∀ x ∈ pre f, okN x ∧ x.kind ≤ 7 ∧ (x.kind = 1 → x.name ∈ ns) := fun x hx => ⟨h.1.1 x hx, h.1.2 x hx, h.2.1 x hx⟩
  have hlen := h.2.2
  clear hL h
  refine op40 ?_
  generalize pre f = L at *
  have hLi : ¬ (20000 : Int) < (L.length : Int) := by omega
  (((try simp (implicitDefEqProofs := false) [hLi]); (try simp (implicitDefEqProofs := false) (disch := first | assumption | (try simp only [lens]); omega -splitDisjunctions) [hLi])); all_goals try (repeat' ((first | ((with_reducible first | refine And.intro ?_ ?_ | refine Exists.intro ?_ ?_); first | omega | (simp <;> omega)) | (with_reducible refine spl (And.intro ?_ ?_) <;> intro _) | (refine CL.clo (hva) ?_) | (refine CM.clo (hva) ?_) | (refine CD.clo (hva) ?_) | (refine CL.clo (hw) ?_) | (refine CM.clo (hw) ?_) | (refine CD.clo (hw) ?_)) <;> ((try simp (implicitDefEqProofs := false) [hLi]); (try simp (implicitDefEqProofs := false) (disch := first | assumption | (try simp only [lens]); omega -splitDisjunctions) [hLi])))))
  clear hva hw
  refine W_of fun Q hQ => ?_
  have main : ∀ r i, i + r = L.length → Q [(1, .list (ns.map strRow)), (5, .list (L.map frm)), (6, .int .i64 (i : Int))] [] := by
    intro r
    induction r with
    | zero =>
      intro i hi
      obtain rfl : i = L.length := by omega
      apply hQ
      clear hQ
      (((try simp (implicitDefEqProofs := false)); (try simp (implicitDefEqProofs := false) (disch := first | assumption | (try simp only [lens]); omega -splitDisjunctions))); all_goals try (repeat' ((first | ((with_reducible first | refine And.intro ?_ ?_ | refine Exists.intro ?_ ?_); first | omega | (simp <;> omega)) | (with_reducible refine spl (And.intro ?_ ?_) <;> intro _)) <;> ((try simp (implicitDefEqProofs := false)); (try simp (implicitDefEqProofs := false) (disch := first | assumption | (try simp only [lens]); omega -splitDisjunctions))))))
    | succ r ih =>
      intro i hi
      have hiL : i < L.length := by omega
      have ih := ih (i + 1) (by omega)
      obtain ⟨⟨k0, k1, k2⟩, k3, k4⟩ := hall L[i] (List.getElem_mem hiL)
      have har := Arity_ref L[i].kind
      have hge : 1 ≤ L[i].kind := by
        rcases Int.lt_or_le L[i].kind 1 with h | h
        · exfalso; unfold kidsN at k0; (repeat' split at k0) <;> omega
        · exact h
      have e1 : ¬ L[i].kind < 1 := by omega
      have e2 : ¬ 7 < L[i].kind := by omega
      have ht := HasText_ref ns L[i].name
      apply hQ
      clear hQ
      by_cases hk : L[i].kind = 1
      · rw [memB_iff.2 (k4 hk)] at ht
        rw [hk] at har k1
        have hk1 : kidsN 1 = 0 := rfl
        rw [hk1] at har k1
        (((try simp (implicitDefEqProofs := false) [hiL, hk, k1]); (try simp (implicitDefEqProofs := false) (disch := first | assumption | (try simp only [lens]); omega -splitDisjunctions) [hiL, hk, k1])); all_goals try (repeat' ((first | ((with_reducible first | refine And.intro ?_ ?_ | refine Exists.intro ?_ ?_); first | omega | (simp <;> omega)) | (with_reducible refine spl (And.intro ?_ ?_) <;> intro _) | (refine CL.clo (har) ?_) | (refine CM.clo (har) ?_) | (refine CD.clo (har) ?_) | (refine CL.clo (ht) ?_) | (refine CM.clo (ht) ?_) | (refine CD.clo (ht) ?_)) <;> ((try simp (implicitDefEqProofs := false) [hiL, hk, k1]); (try simp (implicitDefEqProofs := false) (disch := first | assumption | (try simp only [lens]); omega -splitDisjunctions) [hiL, hk, k1])))))
        all_goals first | exact ih | (refine at2 ih ?_ ?_ <;> simp; done) | (exfalso; first | omega | (simp_all; done) | (simp_all; omega))
      · have hn : L[i].name = ⟨#[]⟩ := Classical.byContradiction fun hn => k2 (.inr ⟨hk, hn⟩)
        (((try simp (implicitDefEqProofs := false) [hiL, hk, e1, e2, k1, hn]); (try simp (implicitDefEqProofs := false) (disch := first | assumption | (try simp only [lens]); omega -splitDisjunctions) [hiL, hk, e1, e2, k1, hn])); all_goals try (repeat' ((first | ((with_reducible first | refine And.intro ?_ ?_ | refine Exists.intro ?_ ?_); first | omega | (simp <;> omega)) | (with_reducible refine spl (And.intro ?_ ?_) <;> intro _) | (refine CL.clo (har) ?_) | (refine CM.clo (har) ?_) | (refine CD.clo (har) ?_)) <;> ((try simp (implicitDefEqProofs := false) [hiL, hk, e1, e2, k1, hn]); (try simp (implicitDefEqProofs := false) (disch := first | assumption | (try simp only [lens]); omega -splitDisjunctions) [hiL, hk, e1, e2, k1, hn])))))
        all_goals first | exact ih | (refine at2 ih ?_ ?_ <;> simp; done) | (exfalso; first | omega | (simp_all; done) | (simp_all; omega))
  all_goals first | exact main _ 0 (Nat.zero_add _) | (refine at2 main _ 0 (Nat.zero_add _) ?_ ?_ <;> simp; done) | (exfalso; first | omega | (simp_all; done) | (simp_all; omega))
theorem varsW_eq {l : List Fm} (h : ∀ f ∈ l, (pre f).length ≤ 200) : varsW l = varsS l := by
  unfold varsW varsS
  congr 1
  induction l with
  | nil => rfl
  | cons f r ih =>
    rw [List.flatMap_cons, List.flatMap_cons, ih fun g hg => h g (List.mem_cons_of_mem _ hg)]
    congr 1
    have hf := h f List.mem_cons_self
    rw [show (100000 : Int) = ((100000 : Nat) : Int) from rfl, walk_take, List.take_of_length_le (by omega), nodesGo_take 200 200 [f] (by omega), pres_cons, pres_nil, List.append_nil, List.take_of_length_le hf]
/-- the document's names are the program's -/
theorem NamesIn_names (l : List Fm) (hl : l.length ≤ 100) (h : ∀ f ∈ l, (pre f).length ≤ 200) : CallOK Try.prog 17 [.list (l.map frm)] [] (.list ((namesS l).map strRow)) [] := by
  have hn := NamesIn_ref l hl
  rw [varsW_eq h, ← comp_ins] at hn
  exact hn
theorem plainL_all {l : List Fm} (h : (plainL l).1 = 0) : ∀ f ∈ l, (plainF f).1 = 0 := by
  induction l with
  | nil => intro f hf; cases hf
  | cons a r ih =>
    rw [plainL] at h
    split at h
    · exact absurd h ‹_›
    · rename_i hc
      intro f hf
      rcases List.mem_cons.1 hf with rfl | hf
      · exact Decidable.not_not.1 hc
      · exact ih h f hf
theorem plainL_zero : ∀ {l : List Fm}, (plainL l).1 = 0 → plainL l = (0, 0)
  | [], _ => rfl
  | a :: r, h => by
    rw [plainL] at h ⊢
    split at h
    · exact absurd h ‹_›
    · rename_i hc; rw [if_neg hc]; exact plainL_zero h
def x36 : XC := .seq (.reg [⟨some 2,.alloc 33,none⟩]) (.seq (.reg [⟨some 4,.move (.tmp 0),none⟩,⟨some 5,.call ⟨.value (.func 21),#[.tmp 4],#[22]⟩,none⟩,⟨some 3,.alloc 33,none⟩,⟨none,.store 33 (.tmp 3) (.tmp 5),none⟩]) (.seq (.seq (.reg [⟨some 6,.fieldAddr 33 (.tmp 3) 0,none⟩,⟨some 7,.load 3 (.tmp 6),none⟩,⟨some 8,.binOp .eql 3 (.tmp 7) (.const (.int .i64 0)) 3,none⟩,⟨some 9,.move (.tmp 8),none⟩,⟨some 10,.move (.tmp 0),some (some 9,true)⟩,⟨some 11,.call ⟨.value (.func 17),#[.tmp 10],#[22]⟩,some (some 9,true)⟩,⟨some 12,.call ⟨.builtin .len,#[.tmp 11],#[35]⟩,some (some 9,true)⟩,⟨some 13,.binOp .gtr 3 (.tmp 12) (.const (.int .i64 6)) 3,some (some 9,true)⟩,⟨some 14,.pick (.tmp 9) (.tmp 13) (.const (.bool false)),none⟩]) (.cond (.tmp 14) (.reg [⟨some 15,.call ⟨.value (.func 38),#[.const (.int .i64 2),.const (.int .i64 0)],#[3,3]⟩,none⟩,⟨none,.store 33 (.tmp 3) (.tmp 15),none⟩]) (.skip))) (.seq (.reg [⟨some 16,.load 33 (.tmp 3),none⟩,⟨none,.store 33 (.tmp 2) (.tmp 16),none⟩]) (.ret))))
@[simp] theorem x36_s {C : WC} {e : AE} {s : Store} {K : KS} : type_of% (@X_at C e s K _ _ x36.eq_1) := X_at x36.eq_1
def an36 : Ann := ⟨[], [], []⟩
def cx36 (P : Program) (m : Nat) : WC := ⟨P, m, an36⟩
@[simp] theorem cx36_a {P : Program} {m : Nat} : (cx36 P m).P = P ∧ (cx36 P m).m = m := ⟨rfl, rfl⟩
instance {P : Program} {m f : Nat} [h : EnT P f] : EnT (cx36 P m).P f := h
theorem chk36 : ∀ c, Try.f36.body = some c → chkC Try.f36.ntmps an36 c = true := by intro c h; obtain rfl := Option.some.inj h; decide +kernel
theorem op36 {args : List PV} {v : PV} (h : X (cx36 Try.prog 0) x36 (argsA 0 args) [] (.fin [.cell 2 33] fun v1 s1 => deref s1 6 v1 = v)) (hl : args.length ≤ Try.f36.ntmps := by rw [Try.ntmps36]; simp) : CallOK Try.prog 36 args [] v [] :=
  callX (m := 0) (cx36 Try.prog 0) x36 rfl rfl (by kernel_rfl) Try.func36 rfl rfl hl mixed (chk36 _ rfl) (by rw [Try.results36]; exact h)

theorem betweenFault_law (l : List Fm) (hl : l.length ≤ 100) : CallOK Try.prog 36 [.list (l.map frm)] [] (.agg [.int .i64 (lookV l).2.1, .int .i64 (lookV l).2.2]) [] := by
  have hp := PlainFault_ref l (by omega)
  have hF := F_ref 2 0
  refine op36 ?_
  unfold lookV
  by_cases h : (plainL l).1 = 0
  · rw [if_neg (by simpa using h)]
    rw [plainL_zero h] at hp
    have hn := NamesIn_names l hl fun f hf => ((plainF_iff f).1 (plainL_all h f hf)).2
    generalize namesS l = N at *
    by_cases h6 : 6 < N.length
    · rw [if_pos h6]
      have h6i : (6 : Int) < (N.length : Int) := by omega
      (((try simp (implicitDefEqProofs := false) [h6i]); (try simp (implicitDefEqProofs := false) (disch := first | assumption | (try simp only [lens]); omega -splitDisjunctions) [h6i])); all_goals try (repeat' ((first | ((with_reducible first | refine And.intro ?_ ?_ | refine Exists.intro ?_ ?_); first | omega | (simp <;> omega)) | (with_reducible refine spl (And.intro ?_ ?_) <;> intro _) | (refine CL.clo (hp) ?_) | (refine CM.clo (hp) ?_) | (refine CD.clo (hp) ?_) | (refine CL.clo (hn) ?_) | (refine CM.clo (hn) ?_) | (refine CD.clo (hn) ?_) | (refine CL.clo (hF) ?_) | (refine CM.clo (hF) ?_) | (refine CD.clo (hF) ?_)) <;> ((try simp (implicitDefEqProofs := false) [h6i]); (try simp (implicitDefEqProofs := false) (disch := first | assumption | (try simp only [lens]); omega -splitDisjunctions) [h6i])))))
      all_goals trace_state
    · rw [if_neg h6]
      have h6i : ¬ (6 : Int) < (N.length : Int) := by omega
      (((try simp (implicitDefEqProofs := false) [h6i]); (try simp (implicitDefEqProofs := false) (disch := first | assumption | (try simp only [lens]); omega -splitDisjunctions) [h6i])); all_goals try (repeat' ((first | ((with_reducible first | refine And.intro ?_ ?_ | refine Exists.intro ?_ ?_); first | omega | (simp <;> omega)) | (with_reducible refine spl (And.intro ?_ ?_) <;> intro _) | (refine CL.clo (hp) ?_) | (refine CM.clo (hp) ?_) | (refine CD.clo (hp) ?_) | (refine CL.clo (hn) ?_) | (refine CM.clo (hn) ?_) | (refine CD.clo (hn) ?_) | (refine CL.clo (hF) ?_) | (refine CM.clo (hF) ?_) | (refine CD.clo (hF) ?_)) <;> ((try simp (implicitDefEqProofs := false) [h6i]); (try simp (implicitDefEqProofs := false) (disch := first | assumption | (try simp only [lens]); omega -splitDisjunctions) [h6i])))))
      all_goals trace_state
  · rw [if_pos (by simpa using h)]
    generalize plainL l = w at *
    (((try simp (implicitDefEqProofs := false) [h]); (try simp (implicitDefEqProofs := false) (disch := first | assumption | (try simp only [lens]); omega -splitDisjunctions) [h])); all_goals try (repeat' ((first | ((with_reducible first | refine And.intro ?_ ?_ | refine Exists.intro ?_ ?_); first | omega | (simp <;> omega)) | (with_reducible refine spl (And.intro ?_ ?_) <;> intro _) | (refine CL.clo (hp) ?_) | (refine CM.clo (hp) ?_) | (refine CD.clo (hp) ?_)) <;> ((try simp (implicitDefEqProofs := false) [h]); (try simp (implicitDefEqProofs := false) (disch := first | assumption | (try simp only [lens]); omega -splitDisjunctions) [h])))))
    all_goals trace_state
end Go.Proofs.Ytnoklmapofogeaa
