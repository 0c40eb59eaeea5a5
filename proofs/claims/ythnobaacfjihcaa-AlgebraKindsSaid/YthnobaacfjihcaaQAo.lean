/-
  sequentref: F, OrderFault.
-/
import Derived.Test.YthnobaacfjihcaaQAm
namespace Go.Proofs.Ythnobaacfjihcaa
open Go Go.Pv
set_option linter.unusedVariables false
set_option linter.unusedSimpArgs false
set_option maxRecDepth 100000
set_option maxHeartbeats 4000000

def x20 : XC := .seq (.reg [⟨some 4,.alloc 27,none⟩]) (.seq (.reg [⟨some 5,.move (.tmp 0),none⟩,⟨some 6,.move (.tmp 1),none⟩,⟨some 7,.build 27 #[(0,.tmp 5),(1,.tmp 6)],none⟩,⟨none,.store 27 (.tmp 4) (.tmp 7),none⟩]) (.ret))
@[simp] theorem x20_s {C : WC} {e : AE} {s : Store} {K : KS} : type_of% (@X_at C e s K _ _ x20.eq_1) := X_at x20.eq_1
def an20 : Ann := ⟨[], [], []⟩
def cx20 (P : Program) (m : Nat) : WC := ⟨P, m, an20⟩
@[simp] theorem cx20_a {P : Program} {m : Nat} : (cx20 P m).P = P ∧ (cx20 P m).m = m := ⟨rfl, rfl⟩
instance {P : Program} {m f : Nat} [h : EnT P f] : EnT (cx20 P m).P f := h
theorem chk20 : ∀ c, Try.f20.body = some c → chkC Try.f20.ntmps an20 c = true := by intro c h; obtain rfl := Option.some.inj h; decide +kernel
theorem op20 {args : List PV} {v : PV} (h : X (cx20 Try.prog 0) x20 (argsA 0 args) [] (.fin [.cell 4 27] fun v1 s1 => deref s1 6 v1 = v)) (hl : args.length ≤ Try.f20.ntmps := by rw [Try.ntmps20]; simp) : CallOK Try.prog 20 args [] v [] :=
  callX (m := 0) (cx20 Try.prog 0) x20 rfl rfl (by kernel_rfl) Try.func20 rfl rfl hl mixed (chk20 _ rfl) (by rw [Try.results20]; exact h)

theorem F_ref (a b : Int) : CallOK Try.prog 20 [.int .i64 a, .int .i64 b] [] (.agg [.int .i64 a, .int .i64 b]) [] := by
  refine op20 ?_
  (((try simp (implicitDefEqProofs := false)); (try simp (implicitDefEqProofs := false) (disch := first | assumption | (try simp only [lens]); omega -splitDisjunctions))); all_goals try (repeat' ((first | ((with_reducible first | refine And.intro ?_ ?_ | refine Exists.intro ?_ ?_); first | omega | (simp <;> omega)) | (with_reducible refine spl (And.intro ?_ ?_) <;> intro _)) <;> ((try simp (implicitDefEqProofs := false)); (try simp (implicitDefEqProofs := false) (disch := first | assumption | (try simp only [lens]); omega -splitDisjunctions))))))
def relOK (n : Int) (p : Int × Int) : Bool := decide (0 ≤ p.1 ∧ p.1 < n) && decide (0 ≤ p.2 ∧ p.2 < n)
def relBad (n : Int) : List (Int × Int) → Nat → Option (Int × Int)
  | [], _ => none
  | p :: r, i => if relOK n p = true then relBad n r (i + 1) else some (3, (i : Int))
/-- the first that stands both above and below one ahead of it -/
noncomputable def cyc (E : List (Int × Int)) (i : Nat) : Bool := (List.range i).any fun k => leB E i k && leB E k i
noncomputable def ofault (o : Ord) : Int × Int :=
  if o.n < 1 ∨ 20 < o.n ∨ 500 < o.ps.length then (2, 0) else ((relBad o.n o.ps 0).or (((List.range o.n.toNat).find? (cyc o.ps)).map fun i => (5, (i : Int)))).getD (0, 0)
theorem relBad_none {n : Int} : ∀ (l : List (Int × Int)) (i : Nat), relBad n l i = none → ∀ p ∈ l, 0 ≤ p.1 ∧ p.1 < n ∧ 0 ≤ p.2 ∧ p.2 < n
  | [], _, _, p, hp => by cases hp
  | a :: r, i, h, p, hp => by
    unfold relBad at h
    split at h
    · rename_i ha
      cases hp with
      | head => simp [relOK] at ha; omega
      | tail _ hp => exact relBad_none r _ h p hp
    · cases h
theorem relBad_drop {n : Int} {l : List (Int × Int)} {i : Nat} (h : i < l.length) : relBad n (l.drop i) i = if relOK n l[i] = true then relBad n (l.drop (i + 1)) (i + 1) else some (3, (i : Int)) := by
  rw [List.drop_eq_getElem_cons h, relBad]
def x8_T5 : XC := .seq (.reg [⟨some 87,.build 27 #[],none⟩,⟨none,.store 27 (.tmp 2) (.tmp 87),none⟩]) (.ret)
def x8_L6 : XC := .seq (.seq (.reg [⟨some 64,.move (.tmp 7),none⟩,⟨some 65,.move (.tmp 6),none⟩,⟨some 66,.binOp .lss 3 (.tmp 64) (.tmp 65) 3,none⟩]) (.cond (.tmp 66) (.skip) (.exit 6))) (.seq (.block 7 (.seq (.reg [⟨some 69,.move (.tmp 5),none⟩,⟨some 70,.move (.tmp 6),none⟩,⟨some 71,.indexAddr 39 (.tmp 69) (.tmp 70),none⟩,⟨some 72,.load 41 (.tmp 71),none⟩,⟨some 73,.move (.tmp 7),none⟩,⟨some 74,.indexAddr 41 (.tmp 72) (.tmp 73),none⟩,⟨some 75,.load 4 (.tmp 74),none⟩,⟨some 76,.move (.tmp 75),none⟩,⟨some 77,.move (.tmp 5),some (some 76,true)⟩,⟨some 78,.move (.tmp 7),some (some 76,true)⟩,⟨some 79,.indexAddr 39 (.tmp 77) (.tmp 78),some (some 76,true)⟩,⟨some 80,.load 41 (.tmp 79),some (some 76,true)⟩,⟨some 81,.move (.tmp 6),some (some 76,true)⟩,⟨some 82,.indexAddr 41 (.tmp 80) (.tmp 81),some (some 76,true)⟩,⟨some 83,.load 4 (.tmp 82),some (some 76,true)⟩,⟨some 84,.pick (.tmp 76) (.tmp 83) (.const (.bool false)),none⟩]) (.cond (.tmp 84) (.seq (.reg [⟨some 85,.move (.tmp 6),none⟩,⟨some 86,.call ⟨.value (.func 20),#[.const (.int .i64 5),.tmp 85],#[3,3]⟩,none⟩,⟨none,.store 27 (.tmp 2) (.tmp 86),none⟩]) (.ret)) (.skip)))) (.reg [⟨some 67,.move (.tmp 7),none⟩,⟨some 68,.binOp .add 3 (.tmp 67) (.const (.int .i64 1)) 3,none⟩,⟨some 7,.assign (.tmp 68),none⟩]))
def x8_L4 : XC := .seq (.seq (.reg [⟨some 58,.move (.tmp 6),none⟩,⟨some 59,.fieldAddr 24 (.tmp 1) 0,none⟩,⟨some 60,.load 3 (.tmp 59),none⟩,⟨some 61,.binOp .lss 3 (.tmp 58) (.tmp 60) 3,none⟩]) (.cond (.tmp 61) (.skip) (.exit 4))) (.seq (.block 5 (.seq (.reg [⟨some 7,.assign (.const (.int .i64 0)),none⟩]) (.bloop 6 x8_L6))) (.reg [⟨some 62,.move (.tmp 6),none⟩,⟨some 63,.binOp .add 3 (.tmp 62) (.const (.int .i64 1)) 3,none⟩,⟨some 6,.assign (.tmp 63),none⟩]))
def x8_T2 : XC := .seq (.reg [⟨some 56,.load 24 (.tmp 1),none⟩,⟨some 57,.call ⟨.value (.func 12),#[.tmp 56],#[24]⟩,none⟩,⟨some 5,.assign (.tmp 57),none⟩]) (.seq (.seq (.reg [⟨some 6,.assign (.const (.int .i64 0)),none⟩]) (.bloop 4 x8_L4)) (x8_T5))
def x8_L2 : XC := .seq (.seq (.reg [⟨some 30,.move (.tmp 4),none⟩,⟨some 31,.binOp .lss 3 (.tmp 30) (.const (.int .i64 2)) 3,none⟩]) (.cond (.tmp 31) (.skip) (.exit 2))) (.seq (.block 3 (.seq (.drawn 9 [⟨some 34,.fieldAddr 24 (.tmp 1) 1,none⟩,⟨some 35,.load 22 (.tmp 34),none⟩,⟨some 36,.move (.tmp 3),none⟩,⟨some 37,.move (.tmp 4),none⟩,⟨some 38,.indexAddr 22 (.tmp 35) (.tmp 36),none⟩,⟨some 39,.indexAddr 29 (.tmp 38) (.tmp 37),none⟩,⟨some 40,.load 3 (.tmp 39),none⟩,⟨some 41,.binOp .lss 3 (.tmp 40) (.const (.int .i64 0)) 3,none⟩,⟨some 42,.move (.tmp 41),none⟩,⟨some 43,.fieldAddr 24 (.tmp 1) 1,some (some 42,false)⟩,⟨some 44,.load 22 (.tmp 43),some (some 42,false)⟩,⟨some 45,.move (.tmp 3),some (some 42,false)⟩,⟨some 46,.move (.tmp 4),some (some 42,false)⟩,⟨some 47,.indexAddr 22 (.tmp 44) (.tmp 45),some (some 42,false)⟩,⟨some 48,.indexAddr 29 (.tmp 47) (.tmp 46),some (some 42,false)⟩,⟨some 49,.load 3 (.tmp 48),some (some 42,false)⟩,⟨some 50,.fieldAddr 24 (.tmp 1) 0,some (some 42,false)⟩,⟨some 51,.load 3 (.tmp 50),some (some 42,false)⟩,⟨some 52,.binOp .geq 3 (.tmp 49) (.tmp 51) 3,some (some 42,false)⟩,⟨some 53,.pick (.tmp 42) (.const (.bool true)) (.tmp 52),none⟩]) (.cond (.tmp 53) (.seq (.reg [⟨some 54,.move (.tmp 3),none⟩,⟨some 55,.call ⟨.value (.func 20),#[.const (.int .i64 3),.tmp 54],#[3,3]⟩,none⟩,⟨none,.store 27 (.tmp 2) (.tmp 55),none⟩]) (.ret)) (.skip)))) (.reg [⟨some 32,.move (.tmp 4),none⟩,⟨some 33,.binOp .add 3 (.tmp 32) (.const (.int .i64 1)) 3,none⟩,⟨some 4,.assign (.tmp 33),none⟩]))
def x8_L0 : XC := .seq (.seq (.reg [⟨some 23,.move (.tmp 3),none⟩,⟨some 24,.fieldAddr 24 (.tmp 1) 1,none⟩,⟨some 25,.load 22 (.tmp 24),none⟩,⟨some 26,.call ⟨.builtin .len,#[.tmp 25],#[22]⟩,none⟩,⟨some 27,.binOp .lss 3 (.tmp 23) (.tmp 26) 3,none⟩]) (.cond (.tmp 27) (.skip) (.exit 0))) (.seq (.block 1 (.seq (.reg [⟨some 4,.assign (.const (.int .i64 0)),none⟩]) (.bloop 2 x8_L2))) (.reg [⟨some 28,.move (.tmp 3),none⟩,⟨some 29,.binOp .add 3 (.tmp 28) (.const (.int .i64 1)) 3,none⟩,⟨some 3,.assign (.tmp 29),none⟩]))
def x8 : XC := .seq (.reg [⟨some 1,.box 24 (.tmp 0),none⟩,⟨some 2,.alloc 27,none⟩]) (.seq (.seq (.reg [⟨some 8,.fieldAddr 24 (.tmp 1) 0,none⟩,⟨some 9,.load 3 (.tmp 8),none⟩,⟨some 10,.binOp .lss 3 (.tmp 9) (.const (.int .i64 1)) 3,none⟩,⟨some 11,.move (.tmp 10),none⟩,⟨some 12,.fieldAddr 24 (.tmp 1) 0,some (some 11,false)⟩,⟨some 13,.load 3 (.tmp 12),some (some 11,false)⟩,⟨some 14,.binOp .gtr 3 (.tmp 13) (.const (.int .i64 20)) 3,some (some 11,false)⟩,⟨some 15,.pick (.tmp 11) (.const (.bool true)) (.tmp 14),none⟩,⟨some 16,.move (.tmp 15),none⟩,⟨some 17,.fieldAddr 24 (.tmp 1) 1,some (some 16,false)⟩,⟨some 18,.load 22 (.tmp 17),some (some 16,false)⟩,⟨some 19,.call ⟨.builtin .len,#[.tmp 18],#[22]⟩,some (some 16,false)⟩,⟨some 20,.binOp .gtr 3 (.tmp 19) (.const (.int .i64 500)) 3,some (some 16,false)⟩,⟨some 21,.pick (.tmp 16) (.const (.bool true)) (.tmp 20),none⟩]) (.cond (.tmp 21) (.seq (.reg [⟨some 22,.call ⟨.value (.func 20),#[.const (.int .i64 2),.const (.int .i64 0)],#[3,3]⟩,none⟩,⟨none,.store 27 (.tmp 2) (.tmp 22),none⟩]) (.ret)) (.skip))) (.seq (.seq (.reg [⟨some 3,.assign (.const (.int .i64 0)),none⟩]) (.bloop 0 x8_L0)) (x8_T2)))
@[simp] theorem x8_s {C : WC} {e : AE} {s : Store} {K : KS} : type_of% (@X_at C e s K _ _ x8_T5.eq_1) ∧ type_of% (@X_at C e s K _ _ x8_L6.eq_1) ∧ type_of% (@X_at C e s K _ _ x8_L4.eq_1) ∧ type_of% (@X_at C e s K _ _ x8_T2.eq_1) ∧ type_of% (@X_at C e s K _ _ x8_L2.eq_1) ∧ type_of% (@X_at C e s K _ _ x8_L0.eq_1) ∧ type_of% (@X_at C e s K _ _ x8.eq_1) := ⟨X_at x8_T5.eq_1, X_at x8_L6.eq_1, X_at x8_L4.eq_1, X_at x8_T2.eq_1, X_at x8_L2.eq_1, X_at x8_L0.eq_1, X_at x8.eq_1⟩
def an8 : Ann := ⟨[(9, .mix 18)], [(6, [], [1, 2, 5, 6, 7], [1, 2, 5, 6]), (4, [], [1, 2, 5, 6], [2]), (2, [], [1, 2, 3, 4], [1, 2, 3]), (0, [], [1, 2, 3], [1, 2])], []⟩
def cx8 (P : Program) (m : Nat) : WC := ⟨P, m, an8⟩
@[simp] theorem cx8_a {P : Program} {m : Nat} : (cx8 P m).P = P ∧ (cx8 P m).m = m ∧ (cx8 P m).A.clsOf 9 = .mix 18 ∧ (cx8 P m).A.frzOf 9 = [] ∧ (cx8 P m).A.loopOf 6 = ([], [1, 2, 5, 6, 7], [1, 2, 5, 6]) ∧ (cx8 P m).A.loopOf 4 = ([], [1, 2, 5, 6], [2]) ∧ (cx8 P m).A.loopOf 2 = ([], [1, 2, 3, 4], [1, 2, 3]) ∧ (cx8 P m).A.loopOf 0 = ([], [1, 2, 3], [1, 2]) := ⟨rfl, rfl, rfl, rfl, rfl, rfl, rfl, rfl⟩
instance {P : Program} {m f : Nat} [h : EnT P f] : EnT (cx8 P m).P f := h
theorem chk8 : ∀ c, Try.f8.body = some c → chkC Try.f8.ntmps an8 c = true := by intro c h; obtain rfl := Option.some.inj h; decide +kernel
theorem op8 {args : List PV} {v : PV} (h : X (cx8 Try.prog 0) x8 (argsA 0 args) [] (.fin [.cell 2 27] fun v1 s1 => deref s1 6 v1 = v)) (hl : args.length ≤ Try.f8.ntmps := by rw [Try.ntmps8]; simp) : CallOK Try.prog 8 args [] v [] :=
  callX (m := 0) (cx8 Try.prog 0) x8 rfl rfl (by kernel_rfl) Try.func8 rfl rfl hl mixed (chk8 _ rfl) (by rw [Try.results8]; exact h)

theorem OrderFault_ref (o : Ord) : CallOK Try.prog 8 [.agg (ord o)] [] (.agg [.int .i64 (ofault o).1, .int .i64 (ofault o).2]) [] := by
  have hat := fun n h1 h2 h3 h4 => AtMost_ref o n h1 h2 h3 h4
  refine op8 ?_
  obtain ⟨n, E⟩ := o
  unfold ofault
  simp only [ord] at hat ⊢
  by_cases hA : n < 1 ∨ 20 < n ∨ 500 < E.length
  · rw [if_pos hA]
    (((try simp (implicitDefEqProofs := false)); (try simp (implicitDefEqProofs := false) (disch := first | assumption | (try simp only [lens]); omega -splitDisjunctions))); all_goals try (repeat' ((first | ((with_reducible first | refine And.intro ?_ ?_ | refine Exists.intro ?_ ?_); first | omega | (simp <;> omega)) | (with_reducible refine spl (And.intro ?_ ?_) <;> intro _) | (refine CL.clo (F_ref _ _) ?_) | (refine CM.clo (F_ref _ _) ?_) | (refine CD.clo (F_ref _ _) ?_)) <;> ((try simp (implicitDefEqProofs := false)); (try simp (implicitDefEqProofs := false) (disch := first | assumption | (try simp only [lens]); omega -splitDisjunctions))))))
    all_goals (exfalso; omega)
  · rw [if_neg hA]
    simp only [not_or, Int.not_lt, Nat.not_lt] at hA
    obtain ⟨hA1, hA2, hA3⟩ := hA
    obtain ⟨n, rfl⟩ : ∃ k : Nat, n = (k : Int) := ⟨n.toNat, by omega⟩
    (((try simp (implicitDefEqProofs := false)); (try simp (implicitDefEqProofs := false) (disch := first | assumption | (try simp only [lens]); omega -splitDisjunctions))); all_goals try (repeat' ((first | ((with_reducible first | refine And.intro ?_ ?_ | refine Exists.intro ?_ ?_); first | omega | (simp <;> omega)) | (with_reducible refine spl (And.intro ?_ ?_) <;> intro _) | (refine CL.clo (F_ref _ _) ?_) | (refine CM.clo (F_ref _ _) ?_) | (refine CD.clo (F_ref _ _) ?_)) <;> ((try simp (implicitDefEqProofs := false)); (try simp (implicitDefEqProofs := false) (disch := first | assumption | (try simp only [lens]); omega -splitDisjunctions))))))
    all_goals try (exfalso; omega)
    refine W_of fun Q hQ => ?_
    have main : ∀ k i, i + k = E.length → relBad n E 0 = relBad n (E.drop i) i → Q [(1, .ptr 0 0 0), (2, .ptr 1 0 0), (3, .int .i64 (i : Int))] [.rows 2 [[.int .i64 (n : Int), .list (E.map relRow)]], .rows 2 [[.int .i64 0, .int .i64 0]]] := by
      intro k
      induction k with
      | zero =>
        intro i hi hr
        rw [List.drop_of_length_le (by omega)] at hr
        have hr : relBad (n : Int) E 0 = none := hr
        have hE := relBad_none E 0 hr
        have hat := hat n rfl (by omega) hE (by omega)
        apply hQ
        clear hQ
        (((try simp (implicitDefEqProofs := false)); (try simp (implicitDefEqProofs := false) (disch := first | assumption | (try simp only [lens]); omega -splitDisjunctions))); all_goals try (repeat' ((first | ((with_reducible first | refine And.intro ?_ ?_ | refine Exists.intro ?_ ?_); first | omega | (simp <;> omega)) | (with_reducible refine spl (And.intro ?_ ?_) <;> intro _) | (refine CL.clo (hat) ?_) | (refine CM.clo (hat) ?_) | (refine CD.clo (hat) ?_)) <;> ((try simp (implicitDefEqProofs := false)); (try simp (implicitDefEqProofs := false) (disch := first | assumption | (try simp only [lens]); omega -splitDisjunctions))))))
        refine W_of fun Q2 hQ2 => ?_
        have main2 : ∀ k i, i + k = n → (∀ j, j < i → cyc E j = false) → Q2 [(1, .ptr 0 0 0), (2, .ptr 1 0 0), (5, .list ((tabF n (leB E)).map tabRowF)), (6, .int .i64 (i : Int))] [.rows 2 [[.int .i64 (n : Int), .list (E.map relRow)]], .rows 2 [[.int .i64 0, .int .i64 0]]] := by
          intro k
          induction k with
          | zero =>
            intro i hi hc
            have hfd : (List.range n).find? (cyc E) = none := by
              rw [List.find?_eq_none]
              intro j hj
              rw [List.mem_range] at hj
              simp [hc j (by omega)]
            apply hQ2
            (((try simp (implicitDefEqProofs := false)); (try simp (implicitDefEqProofs := false) (disch := first | assumption | (try simp only [lens]); omega -splitDisjunctions))); all_goals try (repeat' ((first | ((with_reducible first | refine And.intro ?_ ?_ | refine Exists.intro ?_ ?_); first | omega | (simp <;> omega)) | (with_reducible refine spl (And.intro ?_ ?_) <;> intro _)) <;> ((try simp (implicitDefEqProofs := false)); (try simp (implicitDefEqProofs := false) (disch := first | assumption | (try simp only [lens]); omega -splitDisjunctions))))))
            all_goals simp [hr, hfd]
          | succ k ih2 =>
            intro i hi hc
            have hin : i < n := by omega
            have ih2 := ih2 (i + 1) (by omega)
            apply hQ2
            clear hQ2
            (((try simp (implicitDefEqProofs := false) [hin]); (try simp (implicitDefEqProofs := false) (disch := first | assumption | (try simp only [lens]); omega -splitDisjunctions) [hin])); all_goals try (repeat' ((first | ((with_reducible first | refine And.intro ?_ ?_ | refine Exists.intro ?_ ?_); first | omega | (simp <;> omega)) | (with_reducible refine spl (And.intro ?_ ?_) <;> intro _)) <;> ((try simp (implicitDefEqProofs := false) [hin]); (try simp (implicitDefEqProofs := false) (disch := first | assumption | (try simp only [lens]); omega -splitDisjunctions) [hin])))))
            refine W_of fun Q3 hQ3 => ?_
            have main3 : ∀ r k, k + r = i → (∀ m, m < k → (leB E i m && leB E m i) = false) → Q3 [(1, .ptr 0 0 0), (2, .ptr 1 0 0), (5, .list ((tabF n (leB E)).map tabRowF)), (6, .int .i64 (i : Int)), (7, .int .i64 (k : Int))] [.rows 2 [[.int .i64 (n : Int), .list (E.map relRow)]], .rows 2 [[.int .i64 0, .int .i64 0]]] := by
              intro r
              induction r with
              | zero =>
                intro k hk hm
                have hci : cyc E i = false := by
                  unfold cyc
                  rw [List.any_eq_false]
                  intro m hm2
                  rw [List.mem_range] at hm2
                  rw [hm m (by omega)]; simp
                have ih2 := ih2 (fun j hj => by
                  by_cases e : j = i
                  · subst e; exact hci
                  · exact hc j (by omega))
                apply hQ3
                clear hQ3
                (((try simp (implicitDefEqProofs := false) [hin]); (try simp (implicitDefEqProofs := false) (disch := first | assumption | (try simp only [lens]); omega -splitDisjunctions) [hin])); all_goals try (repeat' ((first | ((with_reducible first | refine And.intro ?_ ?_ | refine Exists.intro ?_ ?_); first | omega | (simp <;> omega)) | (with_reducible refine spl (And.intro ?_ ?_) <;> intro _)) <;> ((try simp (implicitDefEqProofs := false) [hin]); (try simp (implicitDefEqProofs := false) (disch := first | assumption | (try simp only [lens]); omega -splitDisjunctions) [hin])))))
                all_goals first | (exfalso; omega) | simpa using ih2
              | succ r ih3 =>
                intro k hk hm
                have hki : k < i := by omega
                have hkn : k < n := by omega
                have ih3 := ih3 (k + 1) (by omega)
                cases hlk : (leB E i k && leB E k i) with
                | true =>
                  have hcy : cyc E i = true := by
                    unfold cyc
                    rw [List.any_eq_true]
                    exact ⟨k, List.mem_range.2 hki, hlk⟩
                  have hfd : (List.range n).find? (cyc E) = some i := by
                    rw [List.find?_range_eq_some]
                    exact ⟨hcy, List.mem_range.2 hin, fun j hj => by rw [hc j hj]; rfl⟩
                  rw [Bool.and_eq_true] at hlk
                  apply hQ3
                  clear hQ3 ih3
                  (((try simp (implicitDefEqProofs := false) [hin, hki, hkn, tabRowF, tabF_get, rowF_get, hlk.1, hlk.2]); (try simp (implicitDefEqProofs := false) (disch := first | assumption | (try simp only [lens]); omega -splitDisjunctions) [hin, hki, hkn, tabRowF, tabF_get, rowF_get, hlk.1, hlk.2])); all_goals try (repeat' ((first | ((with_reducible first | refine And.intro ?_ ?_ | refine Exists.intro ?_ ?_); first | omega | (simp <;> omega)) | (with_reducible refine spl (And.intro ?_ ?_) <;> intro _) | (refine CL.clo (F_ref _ _) ?_) | (refine CM.clo (F_ref _ _) ?_) | (refine CD.clo (F_ref _ _) ?_)) <;> ((try simp (implicitDefEqProofs := false) [hin, hki, hkn, tabRowF, tabF_get, rowF_get, hlk.1, hlk.2]); (try simp (implicitDefEqProofs := false) (disch := first | assumption | (try simp only [lens]); omega -splitDisjunctions) [hin, hki, hkn, tabRowF, tabF_get, rowF_get, hlk.1, hlk.2])))))
                  all_goals first | (exfalso; omega) | simp [hr, hfd]
                | false =>
                  have ih3 := ih3 (fun m hm2 => by
                    by_cases e : m = k
                    · subst e; exact hlk
                    · exact hm m (by omega))
                  apply hQ3
                  clear hQ3
                  (((try simp (implicitDefEqProofs := false) [hin, hki, hkn, tabRowF, tabF_get, rowF_get]); (try simp (implicitDefEqProofs := false) (disch := first | assumption | (try simp only [lens]); omega -splitDisjunctions) [hin, hki, hkn, tabRowF, tabF_get, rowF_get])); all_goals try (repeat' ((first | ((with_reducible first | refine And.intro ?_ ?_ | refine Exists.intro ?_ ?_); first | omega | (simp <;> omega)) | (with_reducible refine spl (And.intro ?_ ?_) <;> intro _) | (refine CL.clo (F_ref _ _) ?_) | (refine CM.clo (F_ref _ _) ?_) | (refine CD.clo (F_ref _ _) ?_)) <;> ((try simp (implicitDefEqProofs := false) [hin, hki, hkn, tabRowF, tabF_get, rowF_get]); (try simp (implicitDefEqProofs := false) (disch := first | assumption | (try simp only [lens]); omega -splitDisjunctions) [hin, hki, hkn, tabRowF, tabF_get, rowF_get])))))
                  all_goals first | (exfalso; omega) | (simpa [tabRowF] using ih3; done) | (exfalso; simp_all; done)
            have m3 := main3 i 0 (by omega) (fun m hm => by omega)
            simpa using m3
        have m2 := main2 n 0 (by omega) (fun j hj => by omega)
        simpa using m2
      | succ k ih =>
        intro i hi hr
        have hlt : i < E.length := by omega
        rw [relBad_drop hlt] at hr
        have ih := ih (i + 1) (by omega)
        apply hQ
        (((try simp (implicitDefEqProofs := false)); (try simp (implicitDefEqProofs := false) (disch := first | assumption | (try simp only [lens]); omega -splitDisjunctions))); all_goals try (repeat' ((first | ((with_reducible first | refine And.intro ?_ ?_ | refine Exists.intro ?_ ?_); first | omega | (simp <;> omega)) | (with_reducible refine spl (And.intro ?_ ?_) <;> intro _)) <;> ((try simp (implicitDefEqProofs := false)); (try simp (implicitDefEqProofs := false) (disch := first | assumption | (try simp only [lens]); omega -splitDisjunctions))))))
        refine W_of fun Q2 hQ2 => ?_
        have q2 : relOK n E[i] = true → Q2 [(1, .ptr 0 0 0), (2, .ptr 1 0 0), (3, .int .i64 (i : Int)), (4, .int .i64 2)] [.rows 2 [[.int .i64 (n : Int), .list (E.map relRow)]], .rows 2 [[.int .i64 0, .int .i64 0]]] := by
          intro hok
          rw [if_pos hok] at hr
          apply hQ2
          (((try simp (implicitDefEqProofs := false)); (try simp (implicitDefEqProofs := false) (disch := first | assumption | (try simp only [lens]); omega -splitDisjunctions))); all_goals try (repeat' ((first | ((with_reducible first | refine And.intro ?_ ?_ | refine Exists.intro ?_ ?_); first | omega | (simp <;> omega)) | (with_reducible refine spl (And.intro ?_ ?_) <;> intro _)) <;> ((try simp (implicitDefEqProofs := false)); (try simp (implicitDefEqProofs := false) (disch := first | assumption | (try simp only [lens]); omega -splitDisjunctions))))))
          refine at2 (ih hr) ?_ ?_ <;> simp
        have q1 : 0 ≤ E[i].1 → E[i].1 < n → Q2 [(1, .ptr 0 0 0), (2, .ptr 1 0 0), (3, .int .i64 (i : Int)), (4, .int .i64 1)] [.rows 2 [[.int .i64 (n : Int), .list (E.map relRow)]], .rows 2 [[.int .i64 0, .int .i64 0]]] := by
          intro h1 h2
          apply hQ2
          by_cases hok : relOK n E[i] = true
          · have q2 := q2 hok
            simp [relOK] at hok
            (((try simp (implicitDefEqProofs := false)); (try simp (implicitDefEqProofs := false) (disch := first | assumption | (try simp only [lens]); omega -splitDisjunctions))); all_goals try (repeat' ((first | ((with_reducible first | refine And.intro ?_ ?_ | refine Exists.intro ?_ ?_); first | omega | (simp <;> omega)) | (with_reducible refine spl (And.intro ?_ ?_) <;> intro _) | (refine CL.clo (F_ref _ _) ?_) | (refine CM.clo (F_ref _ _) ?_) | (refine CD.clo (F_ref _ _) ?_)) <;> ((try simp (implicitDefEqProofs := false)); (try simp (implicitDefEqProofs := false) (disch := first | assumption | (try simp only [lens]); omega -splitDisjunctions))))))
            all_goals first | (exfalso; omega) | simpa using q2
          · rw [if_neg hok] at hr
            rw [hr]
            simp [relOK] at hok
            (((try simp (implicitDefEqProofs := false)); (try simp (implicitDefEqProofs := false) (disch := first | assumption | (try simp only [lens]); omega -splitDisjunctions))); all_goals try (repeat' ((first | ((with_reducible first | refine And.intro ?_ ?_ | refine Exists.intro ?_ ?_); first | omega | (simp <;> omega)) | (with_reducible refine spl (And.intro ?_ ?_) <;> intro _) | (refine CL.clo (F_ref _ _) ?_) | (refine CM.clo (F_ref _ _) ?_) | (refine CD.clo (F_ref _ _) ?_)) <;> ((try simp (implicitDefEqProofs := false)); (try simp (implicitDefEqProofs := false) (disch := first | assumption | (try simp only [lens]); omega -splitDisjunctions))))))
            all_goals first | (exfalso; omega) | simp
        apply hQ2
        by_cases hok : 0 ≤ E[i].1 ∧ E[i].1 < n
        · have q1 := q1 hok.1 hok.2
          (((try simp (implicitDefEqProofs := false)); (try simp (implicitDefEqProofs := false) (disch := first | assumption | (try simp only [lens]); omega -splitDisjunctions))); all_goals try (repeat' ((first | ((with_reducible first | refine And.intro ?_ ?_ | refine Exists.intro ?_ ?_); first | omega | (simp <;> omega)) | (with_reducible refine spl (And.intro ?_ ?_) <;> intro _) | (refine CL.clo (F_ref _ _) ?_) | (refine CM.clo (F_ref _ _) ?_) | (refine CD.clo (F_ref _ _) ?_)) <;> ((try simp (implicitDefEqProofs := false)); (try simp (implicitDefEqProofs := false) (disch := first | assumption | (try simp only [lens]); omega -splitDisjunctions))))))
          all_goals first | (exfalso; omega) | simpa using q1
        · have hok2 : ¬ relOK n E[i] = true := by simp [relOK]; omega
          rw [if_neg hok2] at hr
          rw [hr]
          (((try simp (implicitDefEqProofs := false)); (try simp (implicitDefEqProofs := false) (disch := first | assumption | (try simp only [lens]); omega -splitDisjunctions))); all_goals try (repeat' ((first | ((with_reducible first | refine And.intro ?_ ?_ | refine Exists.intro ?_ ?_); first | omega | (simp <;> omega)) | (with_reducible refine spl (And.intro ?_ ?_) <;> intro _) | (refine CL.clo (F_ref _ _) ?_) | (refine CM.clo (F_ref _ _) ?_) | (refine CD.clo (F_ref _ _) ?_)) <;> ((try simp (implicitDefEqProofs := false)); (try simp (implicitDefEqProofs := false) (disch := first | assumption | (try simp only [lens]); omega -splitDisjunctions))))))
          all_goals first | (exfalso; omega) | simp
    refine at2 (main _ 0 (Nat.zero_add _) rfl) ?_ ?_ <;> simp
end Go.Proofs.Ythnobaacfjihcaa
