/-
  truth.Complete, told without memory.
-/
import Derived.Test.YtbmpmmbcfabeeaaTrI
import Derived.Test.YtbmpmmbcfabeeaaPvQv
namespace Go.Proofs.Ytbmpmmbcfabeeaa
open Go Go.Pv
set_option linter.unusedVariables false
set_option linter.unusedSimpArgs false
set_option maxRecDepth 100000
set_option maxHeartbeats 4000000

def clsAt (t : Tab) (j : Nat) : Bool := ((clsL t.bits t.n.toNat)[j]?).getD false
def allT (l : List Tab) (j : Nat) : Bool := l.all fun t => clsAt t j
theorem allT_snoc (l : List Tab) (t : Tab) (j : Nat) : allT (l ++ [t]) j = (allT l j && clsAt t j) := by simp [allT]
theorem cls_five (t : Tab) (n : Nat) (h : TabOK t n) : (clsL t.bits n).map PV.bool = [.bool (clsAt t 0), .bool (clsAt t 1), .bool (clsAt t 2), .bool (clsAt t 3), .bool (clsAt t 4)] := by
  unfold clsAt
  rw [h.n_eq, Int.toNat_natCast]
  rfl
def five (l : List Tab) : List Bool := [allT l 0, allT l 1, allT l 2, allT l 3, allT l 4]
def compV (l : List Tab) : Bool × List Bool := if (tabF l).1 ≠ 0 then (false, [false, false, false, false, false]) else (!decide (true ∈ five l), five l)
def x26_T2 : XC := .seq (.drawn 14 [⟨some 40,.slice 41 (.tmp 3) none none none,none⟩,⟨some 41,.call ⟨.value (.func 80),#[.tmp 40,.const (.bool true)],#[46,4]⟩,none⟩,⟨some 42,.unOp .not 4 (.tmp 41),none⟩,⟨some 43,.load 41 (.tmp 3),none⟩,⟨some 44,.load 29 (.tmp 4),none⟩,⟨some 2,.assign (.tmp 42),none⟩,⟨none,.store 41 (.tmp 3) (.tmp 43),none⟩,⟨none,.store 29 (.tmp 4) (.tmp 44),none⟩]) (.ret)
def x26_L2 : XC := .seq (.reg [⟨some 27,.binOp .lss 3 (.tmp 26) (.const (.int .i64 5)) 3,none⟩]) (.seq (.cond (.tmp 27) (.skip) (.exit 2)) (.seq (.block 3 (.seq (.reg [⟨some 28,.move (.tmp 26),none⟩,⟨some 29,.index 41 (.tmp 25) (.tmp 26),none⟩,⟨some 8,.assign (.tmp 28),none⟩,⟨some 9,.assign (.tmp 29),none⟩]) (.reg [⟨some 30,.move (.tmp 8),none⟩,⟨some 31,.move (.tmp 8),none⟩,⟨some 32,.indexAddr 41 (.tmp 3) (.tmp 31),none⟩,⟨some 33,.load 4 (.tmp 32),none⟩,⟨some 34,.move (.tmp 33),none⟩,⟨some 35,.move (.tmp 9),some (some 34,true)⟩,⟨some 36,.pick (.tmp 34) (.tmp 35) (.const (.bool false)),none⟩,⟨some 37,.indexAddr 41 (.tmp 3) (.tmp 30),none⟩,⟨none,.store 4 (.tmp 37) (.tmp 36),none⟩]))) (.reg [⟨some 38,.binOp .add 3 (.tmp 26) (.const (.int .i64 1)) 3,none⟩,⟨some 26,.move (.tmp 38),none⟩])))
def x26_L0 : XC := .seq (.reg [⟨some 21,.binOp .lss 3 (.tmp 20) (.tmp 19) 3,none⟩]) (.seq (.cond (.tmp 21) (.skip) (.exit 0)) (.seq (.block 1 (.seq (.reg [⟨some 22,.indexAddr 40 (.tmp 18) (.tmp 20),none⟩,⟨some 23,.load 48 (.tmp 22),none⟩,⟨some 7,.alloc 48,none⟩,⟨none,.store 48 (.tmp 7) (.tmp 23),none⟩]) (.seq (.reg [⟨some 24,.load 48 (.tmp 7),none⟩,⟨some 25,.call ⟨.value (.func 79),#[.tmp 24],#[48]⟩,none⟩,⟨some 26,.move (.const (.int .i64 0)),none⟩]) (.bloop 2 x26_L2)))) (.reg [⟨some 39,.binOp .add 3 (.tmp 20) (.const (.int .i64 1)) 3,none⟩,⟨some 20,.move (.tmp 39),none⟩])))
def x26 : XC := .seq (.reg [⟨some 2,.assign (.const (.bool false)),none⟩,⟨some 3,.alloc 41,none⟩,⟨some 4,.alloc 29,none⟩]) (.seq (.seq (.reg [⟨some 10,.move (.tmp 0),none⟩,⟨some 11,.call ⟨.value (.func 78),#[.tmp 10],#[40]⟩,none⟩,⟨some 5,.alloc 29,none⟩,⟨none,.store 29 (.tmp 5) (.tmp 11),none⟩]) (.seq (.reg [⟨some 12,.fieldAddr 29 (.tmp 5) 0,none⟩,⟨some 13,.load 3 (.tmp 12),none⟩,⟨some 14,.binOp .neq 3 (.tmp 13) (.const (.int .i64 0)) 3,none⟩]) (.cond (.tmp 14) (.seq (.drawn 3 [⟨some 15,.load 41 (.tmp 3),none⟩,⟨some 16,.load 29 (.tmp 5),none⟩,⟨some 2,.assign (.const (.bool false)),none⟩,⟨none,.store 41 (.tmp 3) (.tmp 15),none⟩,⟨none,.store 29 (.tmp 4) (.tmp 16),none⟩]) (.ret)) (.skip)))) (.seq (.reg [⟨some 17,.build 41 #[(0,.const (.bool true)),(1,.const (.bool true)),(2,.const (.bool true)),(3,.const (.bool true)),(4,.const (.bool true))],none⟩,⟨none,.store 41 (.tmp 3) (.tmp 17),none⟩]) (.seq (.seq (.reg [⟨some 18,.move (.tmp 0),none⟩,⟨some 19,.call ⟨.builtin .len,#[.tmp 18],#[40]⟩,none⟩,⟨some 20,.move (.const (.int .i64 0)),none⟩]) (.bloop 0 x26_L0)) (x26_T2))))
@[simp] theorem x26_s {C : WC} {e : AE} {s : Store} {K : KS} : type_of% (@X_at C e s K _ _ x26_T2.eq_1) ∧ type_of% (@X_at C e s K _ _ x26_L2.eq_1) ∧ type_of% (@X_at C e s K _ _ x26_L0.eq_1) ∧ type_of% (@X_at C e s K _ _ x26.eq_1) := ⟨X_at x26_T2.eq_1, X_at x26_L2.eq_1, X_at x26_L0.eq_1, X_at x26.eq_1⟩
def an26 : Ann := ⟨[(3, .mix3 3 1), (14, .mix3 6 4)], [(2, [], [3, 4, 18, 19, 20, 25, 26], [3, 4, 18, 19, 20]), (0, [], [3, 4, 18, 19, 20], [3, 4])], [(14, [10003])]⟩
def cx26 (P : Program) (m : Nat) : WC := ⟨P, m, an26⟩
@[simp] theorem cx26_a {P : Program} {m : Nat} : (cx26 P m).P = P ∧ (cx26 P m).m = m ∧ (cx26 P m).A.clsOf 3 = .mix3 3 1 ∧ (cx26 P m).A.clsOf 14 = .mix3 6 4 ∧ (cx26 P m).A.frzOf 3 = [] ∧ (cx26 P m).A.frzOf 14 = [10003] ∧ (cx26 P m).A.loopOf 2 = ([], [3, 4, 18, 19, 20, 25, 26], [3, 4, 18, 19, 20]) ∧ (cx26 P m).A.loopOf 0 = ([], [3, 4, 18, 19, 20], [3, 4]) := ⟨rfl, rfl, rfl, rfl, rfl, rfl, rfl, rfl⟩
instance {P : Program} {m f : Nat} [h : EnT P f] : EnT (cx26 P m).P f := h
theorem chk26 : ∀ c, Try.f26.body = some c → chkC Try.f26.ntmps an26 c = true := by intro c h; obtain rfl := Option.some.inj h; decide +kernel
theorem op26 {args : List PV} {v : PV} (h : X (cx26 Try.prog 0) x26 (argsA 0 args) [] (.fin [.tmp 2, .cell 3 41, .cell 4 29] fun v1 s1 => deref s1 6 v1 = v)) (hl : args.length ≤ Try.f26.ntmps := by rw [Try.ntmps26]; simp) : CallOK Try.prog 26 args [] v [] :=
  callX (m := 0) (cx26 Try.prog 0) x26 rfl rfl (by kernel_rfl) Try.func26 rfl rfl hl mixed (chk26 _ rfl) (by rw [Try.results26]; exact h)

theorem Complete_truth (l : List Tab) : CallOK Try.prog 26 [.list (l.map tab)] [] (.tuple [.bool (compV l).1, .agg ((compV l).2.map .bool), .agg [.int .i64 (tabF l).1, .int .i64 (tabF l).2]]) [] := by
  have hck := check_truth l
  unfold compV
  refine op26 ?_
  by_cases hz : (tabF l).1 = 0
  · rw [if_neg (by simpa using hz)]
    obtain ⟨h0, h20, hok⟩ := tabF_zero hz
    rw [h0] at hck ⊢
    clear h0 hz
    have hct := Contains_bools (five l) true (by simp [five])
    unfold five at hct ⊢
    simp only [List.map_cons, List.map_nil, boolRow] at hct ⊢
    have hsn := fun (k : Nat) (hk : k < l.length) (j : Nat) => by
      have := allT_snoc (l.take k) l[k] j
      rw [← take_snoc hk] at this
      exact this
    have hnil : ∀ j, allT [] j = true := fun j => rfl
    have hall : ∀ j, allT (l.take l.length) j = allT l j := fun j => by rw [List.take_length]
    generalize decide (true ∈ [allT l 0, allT l 1, allT l 2, allT l 3, allT l 4]) = cb at *
    (((try simp (implicitDefEqProofs := false)); (try simp (implicitDefEqProofs := false) (disch := first | assumption | (try simp only [lens]); omega -splitDisjunctions))); all_goals try (repeat' ((first | ((with_reducible first | refine And.intro ?_ ?_ | refine Exists.intro ?_ ?_); first | omega | (simp <;> omega)) | (with_reducible refine spl (And.intro ?_ ?_) <;> intro _) | (refine CL.clo (hck) ?_) | (refine CM.clo (hck) ?_) | (refine CD.clo (hck) ?_)) <;> ((try simp (implicitDefEqProofs := false)); (try simp (implicitDefEqProofs := false) (disch := first | assumption | (try simp only [lens]); omega -splitDisjunctions))))))
    refine W_of fun Q hQ => ?_
    have main : ∀ r k, k + r = l.length → Q [(3, .ptr 0 0 0), (4, .ptr 1 0 0), (18, .list (l.map tab)), (19, .int .i64 (l.length : Int)), (20, .int .i64 (k : Int))] [.rows 5 [[.bool (allT (l.take k) 0), .bool (allT (l.take k) 1), .bool (allT (l.take k) 2), .bool (allT (l.take k) 3), .bool (allT (l.take k) 4)]], .rows 2 [[.int .i64 0, .int .i64 0]]] := by
      intro r
      induction r with
      | zero =>
        intro k hk
        obtain rfl : k = l.length := by omega
        simp only [hall]
        generalize allT l 0 = a0 at *
        generalize allT l 1 = a1 at *
        generalize allT l 2 = a2 at *
        generalize allT l 3 = a3 at *
        generalize allT l 4 = a4 at *
        apply hQ
        clear hQ hck
        (((try simp (implicitDefEqProofs := false)); (try simp (implicitDefEqProofs := false) (disch := first | assumption | (try simp only [lens]); omega -splitDisjunctions))); all_goals try (repeat' ((first | ((with_reducible first | refine And.intro ?_ ?_ | refine Exists.intro ?_ ?_); first | omega | (simp <;> omega)) | (with_reducible refine spl (And.intro ?_ ?_) <;> intro _) | (refine CM.see (hct) ?_ ?_ ?_; (focus (intro _; first | (simp; done) | (simp [scn]; done))); (focus (simp [flats]; done)))) <;> ((try simp (implicitDefEqProofs := false)); (try simp (implicitDefEqProofs := false) (disch := first | assumption | (try simp only [lens]); omega -splitDisjunctions))))))
      | succ r ih =>
        intro k hk
        have hkl : k < l.length := by omega
        have ih := ih (k + 1) (by omega)
        obtain ⟨n, hn⟩ := hok l[k] (List.getElem_mem hkl)
        have hcl := classes_truth l[k] n hn
        rw [cls_five _ _ hn] at hcl
        simp only [hsn k hkl] at ih
        generalize allT (l.take k) 0 = a0 at *
        generalize allT (l.take k) 1 = a1 at *
        generalize allT (l.take k) 2 = a2 at *
        generalize allT (l.take k) 3 = a3 at *
        generalize allT (l.take k) 4 = a4 at *
        generalize clsAt l[k] 0 = c0 at *
        generalize clsAt l[k] 1 = c1 at *
        generalize clsAt l[k] 2 = c2 at *
        generalize clsAt l[k] 3 = c3 at *
        generalize clsAt l[k] 4 = c4 at *
        simp only [tab] at hcl
        apply hQ
        clear hQ hct
        (((try simp (implicitDefEqProofs := false) [hkl]); (try simp (implicitDefEqProofs := false) (disch := first | assumption | (try simp only [lens]); omega -splitDisjunctions) [hkl])); all_goals try (repeat' ((first | ((with_reducible first | refine And.intro ?_ ?_ | refine Exists.intro ?_ ?_); first | omega | (simp <;> omega)) | (with_reducible refine spl (And.intro ?_ ?_) <;> intro _) | (refine CL.clo (hcl) ?_) | (refine CM.clo (hcl) ?_) | (refine CD.clo (hcl) ?_)) <;> ((try simp (implicitDefEqProofs := false) [hkl]); (try simp (implicitDefEqProofs := false) (disch := first | assumption | (try simp only [lens]); omega -splitDisjunctions) [hkl])))))
        refine W_of fun Q2 hQ2 => ?_
        have q5 : Q2 [(3, .ptr 0 0 0), (4, .ptr 1 0 0), (18, .list (l.map tab)), (19, .int .i64 (l.length : Int)), (20, .int .i64 (k : Int)), (25, .agg [.bool c0, .bool c1, .bool c2, .bool c3, .bool c4]), (26, .int .i64 5)] [.rows 5 [[.bool (a0 && c0), .bool (a1 && c1), .bool (a2 && c2), .bool (a3 && c3), .bool (a4 && c4)]], .rows 2 [[.int .i64 0, .int .i64 0]]] := by
          apply hQ2
          (((try simp (implicitDefEqProofs := false)); (try simp (implicitDefEqProofs := false) (disch := first | assumption | (try simp only [lens]); omega -splitDisjunctions))); all_goals try (repeat' ((first | ((with_reducible first | refine And.intro ?_ ?_ | refine Exists.intro ?_ ?_); first | omega | (simp <;> omega)) | (with_reducible refine spl (And.intro ?_ ?_) <;> intro _)) <;> ((try simp (implicitDefEqProofs := false)); (try simp (implicitDefEqProofs := false) (disch := first | assumption | (try simp only [lens]); omega -splitDisjunctions))))))
          all_goals first | exact ih | (refine at2 ih ?_ ?_ <;> simp; done) | (exfalso; first | omega | (simp_all; done) | (simp_all; omega))
        have q4 : Q2 [(3, .ptr 0 0 0), (4, .ptr 1 0 0), (18, .list (l.map tab)), (19, .int .i64 (l.length : Int)), (20, .int .i64 (k : Int)), (25, .agg [.bool c0, .bool c1, .bool c2, .bool c3, .bool c4]), (26, .int .i64 4)] [.rows 5 [[.bool (a0 && c0), .bool (a1 && c1), .bool (a2 && c2), .bool (a3 && c3), .bool a4]], .rows 2 [[.int .i64 0, .int .i64 0]]] := by
          apply hQ2
          cases a4
          · (((try simp (implicitDefEqProofs := false)); (try simp (implicitDefEqProofs := false) (disch := first | assumption | (try simp only [lens]); omega -splitDisjunctions))); all_goals try (repeat' ((first | ((with_reducible first | refine And.intro ?_ ?_ | refine Exists.intro ?_ ?_); first | omega | (simp <;> omega)) | (with_reducible refine spl (And.intro ?_ ?_) <;> intro _)) <;> ((try simp (implicitDefEqProofs := false)); (try simp (implicitDefEqProofs := false) (disch := first | assumption | (try simp only [lens]); omega -splitDisjunctions))))))
            all_goals exact at2 q5 (by simp) (by simp)
          · (((try simp (implicitDefEqProofs := false)); (try simp (implicitDefEqProofs := false) (disch := first | assumption | (try simp only [lens]); omega -splitDisjunctions))); all_goals try (repeat' ((first | ((with_reducible first | refine And.intro ?_ ?_ | refine Exists.intro ?_ ?_); first | omega | (simp <;> omega)) | (with_reducible refine spl (And.intro ?_ ?_) <;> intro _)) <;> ((try simp (implicitDefEqProofs := false)); (try simp (implicitDefEqProofs := false) (disch := first | assumption | (try simp only [lens]); omega -splitDisjunctions))))))
            all_goals exact at2 q5 (by simp) (by simp)
        have q3 : Q2 [(3, .ptr 0 0 0), (4, .ptr 1 0 0), (18, .list (l.map tab)), (19, .int .i64 (l.length : Int)), (20, .int .i64 (k : Int)), (25, .agg [.bool c0, .bool c1, .bool c2, .bool c3, .bool c4]), (26, .int .i64 3)] [.rows 5 [[.bool (a0 && c0), .bool (a1 && c1), .bool (a2 && c2), .bool a3, .bool a4]], .rows 2 [[.int .i64 0, .int .i64 0]]] := by
          apply hQ2
          cases a3
          · (((try simp (implicitDefEqProofs := false)); (try simp (implicitDefEqProofs := false) (disch := first | assumption | (try simp only [lens]); omega -splitDisjunctions))); all_goals try (repeat' ((first | ((with_reducible first | refine And.intro ?_ ?_ | refine Exists.intro ?_ ?_); first | omega | (simp <;> omega)) | (with_reducible refine spl (And.intro ?_ ?_) <;> intro _)) <;> ((try simp (implicitDefEqProofs := false)); (try simp (implicitDefEqProofs := false) (disch := first | assumption | (try simp only [lens]); omega -splitDisjunctions))))))
            all_goals exact at2 q4 (by simp) (by simp)
          · (((try simp (implicitDefEqProofs := false)); (try simp (implicitDefEqProofs := false) (disch := first | assumption | (try simp only [lens]); omega -splitDisjunctions))); all_goals try (repeat' ((first | ((with_reducible first | refine And.intro ?_ ?_ | refine Exists.intro ?_ ?_); first | omega | (simp <;> omega)) | (with_reducible refine spl (And.intro ?_ ?_) <;> intro _)) <;> ((try simp (implicitDefEqProofs := false)); (try simp (implicitDefEqProofs := false) (disch := first | assumption | (try simp only [lens]); omega -splitDisjunctions))))))
            all_goals exact at2 q4 (by simp) (by simp)
        have q2 : Q2 [(3, .ptr 0 0 0), (4, .ptr 1 0 0), (18, .list (l.map tab)), (19, .int .i64 (l.length : Int)), (20, .int .i64 (k : Int)), (25, .agg [.bool c0, .bool c1, .bool c2, .bool c3, .bool c4]), (26, .int .i64 2)] [.rows 5 [[.bool (a0 && c0), .bool (a1 && c1), .bool a2, .bool a3, .bool a4]], .rows 2 [[.int .i64 0, .int .i64 0]]] := by
          apply hQ2
          cases a2
          · (((try simp (implicitDefEqProofs := false)); (try simp (implicitDefEqProofs := false) (disch := first | assumption | (try simp only [lens]); omega -splitDisjunctions))); all_goals try (repeat' ((first | ((with_reducible first | refine And.intro ?_ ?_ | refine Exists.intro ?_ ?_); first | omega | (simp <;> omega)) | (with_reducible refine spl (And.intro ?_ ?_) <;> intro _)) <;> ((try simp (implicitDefEqProofs := false)); (try simp (implicitDefEqProofs := false) (disch := first | assumption | (try simp only [lens]); omega -splitDisjunctions))))))
            all_goals exact at2 q3 (by simp) (by simp)
          · (((try simp (implicitDefEqProofs := false)); (try simp (implicitDefEqProofs := false) (disch := first | assumption | (try simp only [lens]); omega -splitDisjunctions))); all_goals try (repeat' ((first | ((with_reducible first | refine And.intro ?_ ?_ | refine Exists.intro ?_ ?_); first | omega | (simp <;> omega)) | (with_reducible refine spl (And.intro ?_ ?_) <;> intro _)) <;> ((try simp (implicitDefEqProofs := false)); (try simp (implicitDefEqProofs := false) (disch := first | assumption | (try simp only [lens]); omega -splitDisjunctions))))))
            all_goals exact at2 q3 (by simp) (by simp)
        have q1 : Q2 [(3, .ptr 0 0 0), (4, .ptr 1 0 0), (18, .list (l.map tab)), (19, .int .i64 (l.length : Int)), (20, .int .i64 (k : Int)), (25, .agg [.bool c0, .bool c1, .bool c2, .bool c3, .bool c4]), (26, .int .i64 1)] [.rows 5 [[.bool (a0 && c0), .bool a1, .bool a2, .bool a3, .bool a4]], .rows 2 [[.int .i64 0, .int .i64 0]]] := by
          apply hQ2
          cases a1
          · (((try simp (implicitDefEqProofs := false)); (try simp (implicitDefEqProofs := false) (disch := first | assumption | (try simp only [lens]); omega -splitDisjunctions))); all_goals try (repeat' ((first | ((with_reducible first | refine And.intro ?_ ?_ | refine Exists.intro ?_ ?_); first | omega | (simp <;> omega)) | (with_reducible refine spl (And.intro ?_ ?_) <;> intro _)) <;> ((try simp (implicitDefEqProofs := false)); (try simp (implicitDefEqProofs := false) (disch := first | assumption | (try simp only [lens]); omega -splitDisjunctions))))))
            all_goals exact at2 q2 (by simp) (by simp)
          · (((try simp (implicitDefEqProofs := false)); (try simp (implicitDefEqProofs := false) (disch := first | assumption | (try simp only [lens]); omega -splitDisjunctions))); all_goals try (repeat' ((first | ((with_reducible first | refine And.intro ?_ ?_ | refine Exists.intro ?_ ?_); first | omega | (simp <;> omega)) | (with_reducible refine spl (And.intro ?_ ?_) <;> intro _)) <;> ((try simp (implicitDefEqProofs := false)); (try simp (implicitDefEqProofs := false) (disch := first | assumption | (try simp only [lens]); omega -splitDisjunctions))))))
            all_goals exact at2 q2 (by simp) (by simp)
        have q0 : Q2 [(3, .ptr 0 0 0), (4, .ptr 1 0 0), (18, .list (l.map tab)), (19, .int .i64 (l.length : Int)), (20, .int .i64 (k : Int)), (25, .agg [.bool c0, .bool c1, .bool c2, .bool c3, .bool c4]), (26, .int .i64 0)] [.rows 5 [[.bool a0, .bool a1, .bool a2, .bool a3, .bool a4]], .rows 2 [[.int .i64 0, .int .i64 0]]] := by
          apply hQ2
          cases a0
          · (((try simp (implicitDefEqProofs := false)); (try simp (implicitDefEqProofs := false) (disch := first | assumption | (try simp only [lens]); omega -splitDisjunctions))); all_goals try (repeat' ((first | ((with_reducible first | refine And.intro ?_ ?_ | refine Exists.intro ?_ ?_); first | omega | (simp <;> omega)) | (with_reducible refine spl (And.intro ?_ ?_) <;> intro _)) <;> ((try simp (implicitDefEqProofs := false)); (try simp (implicitDefEqProofs := false) (disch := first | assumption | (try simp only [lens]); omega -splitDisjunctions))))))
            all_goals exact at2 q1 (by simp) (by simp)
          · (((try simp (implicitDefEqProofs := false)); (try simp (implicitDefEqProofs := false) (disch := first | assumption | (try simp only [lens]); omega -splitDisjunctions))); all_goals try (repeat' ((first | ((with_reducible first | refine And.intro ?_ ?_ | refine Exists.intro ?_ ?_); first | omega | (simp <;> omega)) | (with_reducible refine spl (And.intro ?_ ?_) <;> intro _)) <;> ((try simp (implicitDefEqProofs := false)); (try simp (implicitDefEqProofs := false) (disch := first | assumption | (try simp only [lens]); omega -splitDisjunctions))))))
            all_goals exact at2 q1 (by simp) (by simp)
        exact q0
    refine at2 (main _ 0 (Nat.zero_add _)) ?_ ?_ <;> simp [hnil]
  · rw [if_pos (by simpa using hz)]
    generalize tabF l = w at *
    (((try simp (implicitDefEqProofs := false) [hz]); (try simp (implicitDefEqProofs := false) (disch := first | assumption | (try simp only [lens]); omega -splitDisjunctions) [hz])); all_goals try (repeat' ((first | ((with_reducible first | refine And.intro ?_ ?_ | refine Exists.intro ?_ ?_); first | omega | (simp <;> omega)) | (with_reducible refine spl (And.intro ?_ ?_) <;> intro _) | (refine CL.clo (hck) ?_) | (refine CM.clo (hck) ?_) | (refine CD.clo (hck) ?_)) <;> ((try simp (implicitDefEqProofs := false) [hz]); (try simp (implicitDefEqProofs := false) (disch := first | assumption | (try simp only [lens]); omega -splitDisjunctions) [hz])))))
end Go.Proofs.Ytbmpmmbcfabeeaa
