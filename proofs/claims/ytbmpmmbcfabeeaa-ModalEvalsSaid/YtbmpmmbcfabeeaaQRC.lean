/-
  sequentref: ShapeOf, OfLogic.
-/
import Derived.Test.YtbmpmmbcfabeeaaQRA
namespace Go.Proofs.Ytbmpmmbcfabeeaa
open Go Go.Pv
set_option linter.unusedVariables false
set_option linter.unusedSimpArgs false
set_option maxRecDepth 100000
set_option maxHeartbeats 4000000

section
variable (m : Mdl) (n : Nat)
def sP1 (u v : Nat) : Bool := (seenL m n v).all (seeT m u)
def sP3 (u v : Nat) : Bool := (seenL m n u).all (seeT m v)
def rsA (k : Nat) : Bool := (List.range k).all fun u => seeT m u u
def rsB (k : Nat) : Bool := (List.range k).all fun u => (seenL m n u).all (sP1 m n u)
def rsC (k : Nat) : Bool := (List.range k).all fun u => (seenL m n u).all fun v => seeT m v u
def rsD (k : Nat) : Bool := (List.range k).all fun u => (seenL m n u).all (sP3 m n u)
def rsE (k : Nat) : Bool := (List.range k).all fun u => decide (seenL m n u ≠ [])
def rsF (k : Nat) : Bool := (List.range k).all fun u => !seeT m u u && (seenL m n u).all (sP1 m n u)
def sixB (a b c d e f : Bool) : List PV := [.bool a, .bool b, .bool c, .bool d, .bool e, .bool f]
end
theorem mem_seen {m : Mdl} {n u v : Nat} (h : v < n) : decide (v ∈ seenL m n u) = seeT m u v := by
  rw [Bool.eq_iff_iff, decide_eq_true_iff]
  simp [seenL, h]
theorem seen_lt {m : Mdl} {n u i : Nat} (h : i < (seenL m n u).length) : (seenL m n u)[i] < n := by
  have := List.getElem_mem h
  simp only [seenL, List.mem_filter, List.mem_range] at this
  exact this.1
def x44_T5 : XC := .seq (.reg [⟨some 105,.load 67 (.tmp 4),none⟩,⟨none,.store 67 (.tmp 2) (.tmp 105),none⟩]) (.ret)
def x44_L6 : XC := .seq (.seq (.reg [⟨some 82,.move (.tmp 9),none⟩,⟨some 83,.move (.tmp 3),none⟩,⟨some 84,.move (.tmp 5),none⟩,⟨some 85,.indexAddr 131 (.tmp 83) (.tmp 84),none⟩,⟨some 86,.load 112 (.tmp 85),none⟩,⟨some 87,.call ⟨.builtin .len,#[.tmp 86],#[112]⟩,none⟩,⟨some 88,.binOp .lss 3 (.tmp 82) (.tmp 87) 3,none⟩]) (.cond (.tmp 88) (.skip) (.exit 6))) (.seq (.block 7 (.seq (.drawn 26 [⟨some 91,.move (.tmp 3),none⟩,⟨some 92,.move (.tmp 7),none⟩,⟨some 93,.indexAddr 131 (.tmp 91) (.tmp 92),none⟩,⟨some 94,.load 112 (.tmp 93),none⟩,⟨some 95,.move (.tmp 3),none⟩,⟨some 96,.move (.tmp 5),none⟩,⟨some 97,.indexAddr 131 (.tmp 95) (.tmp 96),none⟩,⟨some 98,.load 112 (.tmp 97),none⟩,⟨some 99,.move (.tmp 9),none⟩,⟨some 100,.indexAddr 112 (.tmp 98) (.tmp 99),none⟩,⟨some 101,.load 3 (.tmp 100),none⟩,⟨some 102,.call ⟨.value (.func 107),#[.tmp 94,.tmp 101],#[112,3]⟩,none⟩,⟨some 103,.unOp .not 4 (.tmp 102),none⟩]) (.cond (.tmp 103) (.reg [⟨some 104,.indexAddr 67 (.tmp 4) (.const (.int .i64 3)),none⟩,⟨none,.store 4 (.tmp 104) (.const (.bool false)),none⟩]) (.skip)))) (.reg [⟨some 89,.move (.tmp 9),none⟩,⟨some 90,.binOp .add 3 (.tmp 89) (.const (.int .i64 1)) 3,none⟩,⟨some 9,.assign (.tmp 90),none⟩]))
def x44_T3 : XC := .seq (.reg [⟨some 9,.assign (.const (.int .i64 0)),none⟩]) (.bloop 6 x44_L6)
def x44_L4 : XC := .seq (.seq (.reg [⟨some 58,.move (.tmp 8),none⟩,⟨some 59,.move (.tmp 3),none⟩,⟨some 60,.move (.tmp 7),none⟩,⟨some 61,.indexAddr 131 (.tmp 59) (.tmp 60),none⟩,⟨some 62,.load 112 (.tmp 61),none⟩,⟨some 63,.call ⟨.builtin .len,#[.tmp 62],#[112]⟩,none⟩,⟨some 64,.binOp .lss 3 (.tmp 58) (.tmp 63) 3,none⟩]) (.cond (.tmp 64) (.skip) (.exit 4))) (.seq (.block 5 (.seq (.drawn 20 [⟨some 67,.move (.tmp 3),none⟩,⟨some 68,.move (.tmp 5),none⟩,⟨some 69,.indexAddr 131 (.tmp 67) (.tmp 68),none⟩,⟨some 70,.load 112 (.tmp 69),none⟩,⟨some 71,.move (.tmp 3),none⟩,⟨some 72,.move (.tmp 7),none⟩,⟨some 73,.indexAddr 131 (.tmp 71) (.tmp 72),none⟩,⟨some 74,.load 112 (.tmp 73),none⟩,⟨some 75,.move (.tmp 8),none⟩,⟨some 76,.indexAddr 112 (.tmp 74) (.tmp 75),none⟩,⟨some 77,.load 3 (.tmp 76),none⟩,⟨some 78,.call ⟨.value (.func 107),#[.tmp 70,.tmp 77],#[112,3]⟩,none⟩,⟨some 79,.unOp .not 4 (.tmp 78),none⟩]) (.cond (.tmp 79) (.seq (.reg [⟨some 80,.indexAddr 67 (.tmp 4) (.const (.int .i64 1)),none⟩,⟨none,.store 4 (.tmp 80) (.const (.bool false)),none⟩]) (.reg [⟨some 81,.indexAddr 67 (.tmp 4) (.const (.int .i64 5)),none⟩,⟨none,.store 4 (.tmp 81) (.const (.bool false)),none⟩])) (.skip)))) (.reg [⟨some 65,.move (.tmp 8),none⟩,⟨some 66,.binOp .add 3 (.tmp 65) (.const (.int .i64 1)) 3,none⟩,⟨some 8,.assign (.tmp 66),none⟩]))
def x44_L2 : XC := .seq (.seq (.reg [⟨some 34,.move (.tmp 6),none⟩,⟨some 35,.move (.tmp 3),none⟩,⟨some 36,.move (.tmp 5),none⟩,⟨some 37,.indexAddr 131 (.tmp 35) (.tmp 36),none⟩,⟨some 38,.load 112 (.tmp 37),none⟩,⟨some 39,.call ⟨.builtin .len,#[.tmp 38],#[112]⟩,none⟩,⟨some 40,.binOp .lss 3 (.tmp 34) (.tmp 39) 3,none⟩]) (.cond (.tmp 40) (.skip) (.exit 2))) (.seq (.block 3 (.seq (.reg [⟨some 43,.move (.tmp 3),none⟩,⟨some 44,.move (.tmp 5),none⟩,⟨some 45,.indexAddr 131 (.tmp 43) (.tmp 44),none⟩,⟨some 46,.load 112 (.tmp 45),none⟩,⟨some 47,.move (.tmp 6),none⟩,⟨some 48,.indexAddr 112 (.tmp 46) (.tmp 47),none⟩,⟨some 49,.load 3 (.tmp 48),none⟩,⟨some 7,.assign (.tmp 49),none⟩]) (.seq (.seq (.reg [⟨some 50,.move (.tmp 3),none⟩,⟨some 51,.move (.tmp 7),none⟩,⟨some 52,.indexAddr 131 (.tmp 50) (.tmp 51),none⟩,⟨some 53,.load 112 (.tmp 52),none⟩,⟨some 54,.move (.tmp 5),none⟩,⟨some 55,.call ⟨.value (.func 107),#[.tmp 53,.tmp 54],#[112,3]⟩,none⟩,⟨some 56,.unOp .not 4 (.tmp 55),none⟩]) (.cond (.tmp 56) (.reg [⟨some 57,.indexAddr 67 (.tmp 4) (.const (.int .i64 2)),none⟩,⟨none,.store 4 (.tmp 57) (.const (.bool false)),none⟩]) (.skip))) (.seq (.seq (.reg [⟨some 8,.assign (.const (.int .i64 0)),none⟩]) (.bloop 4 x44_L4)) (x44_T3))))) (.reg [⟨some 41,.move (.tmp 6),none⟩,⟨some 42,.binOp .add 3 (.tmp 41) (.const (.int .i64 1)) 3,none⟩,⟨some 6,.assign (.tmp 42),none⟩]))
def x44_L0 : XC := .seq (.seq (.reg [⟨some 13,.move (.tmp 5),none⟩,⟨some 14,.fieldAddr 61 (.tmp 1) 0,none⟩,⟨some 15,.load 3 (.tmp 14),none⟩,⟨some 16,.binOp .lss 3 (.tmp 13) (.tmp 15) 3,none⟩]) (.cond (.tmp 16) (.skip) (.exit 0))) (.seq (.block 1 (.seq (.seq (.reg [⟨some 19,.move (.tmp 3),none⟩,⟨some 20,.move (.tmp 5),none⟩,⟨some 21,.indexAddr 131 (.tmp 19) (.tmp 20),none⟩,⟨some 22,.load 112 (.tmp 21),none⟩,⟨some 23,.move (.tmp 5),none⟩,⟨some 24,.call ⟨.value (.func 107),#[.tmp 22,.tmp 23],#[112,3]⟩,none⟩]) (.cond (.tmp 24) (.reg [⟨some 25,.indexAddr 67 (.tmp 4) (.const (.int .i64 5)),none⟩,⟨none,.store 4 (.tmp 25) (.const (.bool false)),none⟩]) (.reg [⟨some 26,.indexAddr 67 (.tmp 4) (.const (.int .i64 0)),none⟩,⟨none,.store 4 (.tmp 26) (.const (.bool false)),none⟩]))) (.seq (.seq (.reg [⟨some 27,.move (.tmp 3),none⟩,⟨some 28,.move (.tmp 5),none⟩,⟨some 29,.indexAddr 131 (.tmp 27) (.tmp 28),none⟩,⟨some 30,.load 112 (.tmp 29),none⟩,⟨some 31,.call ⟨.builtin .len,#[.tmp 30],#[112]⟩,none⟩,⟨some 32,.binOp .eql 3 (.tmp 31) (.const (.int .i64 0)) 3,none⟩]) (.cond (.tmp 32) (.reg [⟨some 33,.indexAddr 67 (.tmp 4) (.const (.int .i64 4)),none⟩,⟨none,.store 4 (.tmp 33) (.const (.bool false)),none⟩]) (.skip))) (.seq (.reg [⟨some 6,.assign (.const (.int .i64 0)),none⟩]) (.bloop 2 x44_L2))))) (.reg [⟨some 17,.move (.tmp 5),none⟩,⟨some 18,.binOp .add 3 (.tmp 17) (.const (.int .i64 1)) 3,none⟩,⟨some 5,.assign (.tmp 18),none⟩]))
def x44 : XC := .seq (.reg [⟨some 1,.box 61 (.tmp 0),none⟩,⟨some 2,.alloc 67,none⟩]) (.seq (.reg [⟨some 10,.load 61 (.tmp 1),none⟩,⟨some 11,.call ⟨.value (.func 106),#[.tmp 10],#[61]⟩,none⟩,⟨some 3,.assign (.tmp 11),none⟩]) (.seq (.reg [⟨some 12,.build 67 #[(0,.const (.bool true)),(1,.const (.bool true)),(2,.const (.bool true)),(3,.const (.bool true)),(4,.const (.bool true)),(5,.const (.bool true))],none⟩,⟨some 4,.alloc 67,none⟩,⟨none,.store 67 (.tmp 4) (.tmp 12),none⟩]) (.seq (.seq (.reg [⟨some 5,.assign (.const (.int .i64 0)),none⟩]) (.bloop 0 x44_L0)) (x44_T5))))
@[simp] theorem x44_s {C : WC} {e : AE} {s : Store} {K : KS} : type_of% (@X_at C e s K _ _ x44_T5.eq_1) ∧ type_of% (@X_at C e s K _ _ x44_L6.eq_1) ∧ type_of% (@X_at C e s K _ _ x44_T3.eq_1) ∧ type_of% (@X_at C e s K _ _ x44_L4.eq_1) ∧ type_of% (@X_at C e s K _ _ x44_L2.eq_1) ∧ type_of% (@X_at C e s K _ _ x44_L0.eq_1) ∧ type_of% (@X_at C e s K _ _ x44.eq_1) := ⟨X_at x44_T5.eq_1, X_at x44_L6.eq_1, X_at x44_T3.eq_1, X_at x44_L4.eq_1, X_at x44_L2.eq_1, X_at x44_L0.eq_1, X_at x44.eq_1⟩
def an44 : Ann := ⟨[(20, .mix 11), (26, .mix 11)], [(6, [], [1, 2, 3, 4, 5, 6, 7, 9], [1, 2, 3, 4, 5, 6]), (4, [], [1, 2, 3, 4, 5, 6, 7, 8], [1, 2, 3, 4, 5, 6, 7]), (2, [], [1, 2, 3, 4, 5, 6], [1, 2, 3, 4, 5]), (0, [], [1, 2, 3, 4, 5], [2, 4])], []⟩
def cx44 (P : Program) (m : Nat) : WC := ⟨P, m, an44⟩
@[simp] theorem cx44_a {P : Program} {m : Nat} : (cx44 P m).P = P ∧ (cx44 P m).m = m ∧ (cx44 P m).A.clsOf 20 = .mix 11 ∧ (cx44 P m).A.clsOf 26 = .mix 11 ∧ (cx44 P m).A.frzOf 20 = [] ∧ (cx44 P m).A.frzOf 26 = [] ∧ (cx44 P m).A.loopOf 6 = ([], [1, 2, 3, 4, 5, 6, 7, 9], [1, 2, 3, 4, 5, 6]) ∧ (cx44 P m).A.loopOf 4 = ([], [1, 2, 3, 4, 5, 6, 7, 8], [1, 2, 3, 4, 5, 6, 7]) ∧ (cx44 P m).A.loopOf 2 = ([], [1, 2, 3, 4, 5, 6], [1, 2, 3, 4, 5]) ∧ (cx44 P m).A.loopOf 0 = ([], [1, 2, 3, 4, 5], [2, 4]) := ⟨rfl, rfl, rfl, rfl, rfl, rfl, rfl, rfl, rfl, rfl⟩
instance {P : Program} {m f : Nat} [h : EnT P f] : EnT (cx44 P m).P f := h
theorem chk44 : ∀ c, Try.f44.body = some c → chkC Try.f44.ntmps an44 c = true := by intro c h; obtain rfl := Option.some.inj h; decide +kernel
theorem op44 {args : List PV} {v : PV} (h : X (cx44 Try.prog 0) x44 (argsA 0 args) [] (.fin [.cell 2 67] fun v1 s1 => deref s1 6 v1 = v)) (hl : args.length ≤ Try.f44.ntmps := by rw [Try.ntmps44]; simp) : CallOK Try.prog 44 args [] v [] :=
  callX (m := 0) (cx44 Try.prog 0) x44 rfl rfl (by kernel_rfl) Try.func44 rfl rfl hl mixed (chk44 _ rfl) (by rw [Try.results44]; exact h)

theorem ShapeOf_ref (m : Mdl) (n : Nat) (hm : MdOK m n) : CallOK Try.prog 44 [.agg (mdl m)] [] (.agg (sixB (rsA m n) (rsB m n n) (rsC m n n) (rsD m n n) (rsE m n n) (rsF m n n))) [] := by
  have hseen := Seen_ref m n hm
  obtain ⟨hn, hs, hrel⟩ := hm
  refine op44 ?_
  (((try simp (implicitDefEqProofs := false)); (try simp (implicitDefEqProofs := false) (disch := first | assumption | (try simp only [lens]); omega -splitDisjunctions))); all_goals try (repeat' ((first | ((with_reducible first | refine And.intro ?_ ?_ | refine Exists.intro ?_ ?_); first | omega | (simp <;> omega)) | (with_reducible refine spl (And.intro ?_ ?_) <;> intro _) | (refine CL.clo (hseen) ?_) | (refine CM.clo (hseen) ?_) | (refine CD.clo (hseen) ?_)) <;> ((try simp (implicitDefEqProofs := false)); (try simp (implicitDefEqProofs := false) (disch := first | assumption | (try simp only [lens]); omega -splitDisjunctions))))))
  refine W_of fun Q hQ => ?_
  have main : ∀ k u, u + k = n → Q [(1, .ptr 0 0 0), (2, .ptr 1 0 0), (3, .list ((List.range n).map fun u => [.list ((seenL m n u).map numRow)])), (4, .ptr 2 0 0), (5, .int .i64 (u : Int))]
      [.rows 3 [mdl m], .rows 6 [sixB false false false false false false], .rows 6 [sixB (rsA m u) (rsB m n u) (rsC m n u) (rsD m n u) (rsE m n u) (rsF m n u)]] := by
    intro k
    induction k with
    | zero =>
      intro u hu
      obtain rfl : u = n := by omega
      apply hQ
      unfold sixB
      (((try simp (implicitDefEqProofs := false) [hn]); (try simp (implicitDefEqProofs := false) (disch := first | assumption | (try simp only [lens]); omega -splitDisjunctions) [hn])); all_goals try (repeat' ((first | ((with_reducible first | refine And.intro ?_ ?_ | refine Exists.intro ?_ ?_); first | omega | (simp <;> omega)) | (with_reducible refine spl (And.intro ?_ ?_) <;> intro _)) <;> ((try simp (implicitDefEqProofs := false) [hn]); (try simp (implicitDefEqProofs := false) (disch := first | assumption | (try simp only [lens]); omega -splitDisjunctions) [hn])))))
    | succ k ih =>
      intro u hu
      have ih := ih (u + 1) (by omega)
      have hun : u < n := by omega
      have hmu := fun u => mem_seen (m := m) (n := n) (u := u) hun
      apply hQ
      unfold sixB
      (((try simp (implicitDefEqProofs := false) [hn, hmu]); (try simp (implicitDefEqProofs := false) (disch := first | assumption | (try simp only [lens]); omega -splitDisjunctions) [hn, hmu])); all_goals try (repeat' ((first | ((with_reducible first | refine And.intro ?_ ?_ | refine Exists.intro ?_ ?_); first | omega | (simp <;> omega)) | (with_reducible refine spl (And.intro ?_ ?_) <;> intro _) | (refine CL.clo (memberOf_ref _ _) ?_) | (refine CM.clo (memberOf_ref _ _) ?_) | (refine CD.clo (memberOf_ref _ _) ?_)) <;> ((try simp (implicitDefEqProofs := false) [hn, hmu]); (try simp (implicitDefEqProofs := false) (disch := first | assumption | (try simp only [lens]); omega -splitDisjunctions) [hn, hmu])))))
      all_goals (
        refine W_of fun Q2 hQ2 => ?_
        have main2 : ∀ a b c d e f : Bool, a = rsA m (u + 1) → (b && (seenL m n u).all (sP1 m n u)) = rsB m n (u + 1) → (c && (seenL m n u).all fun v => seeT m v u) = rsC m n (u + 1) →
            (d && (seenL m n u).all (sP3 m n u)) = rsD m n (u + 1) → e = rsE m n (u + 1) → (f && (seenL m n u).all (sP1 m n u)) = rsF m n (u + 1) → ∀ k i, i + k = (seenL m n u).length →
            Q2 [(1, .ptr 0 0 0), (2, .ptr 1 0 0), (3, .list ((List.range n).map fun u => [.list ((seenL m n u).map numRow)])), (4, .ptr 2 0 0), (5, .int .i64 (u : Int)), (6, .int .i64 (i : Int))]
              [.rows 3 [mdl m], .rows 6 [sixB false false false false false false], .rows 6 [sixB a (b && ((seenL m n u).take i).all (sP1 m n u)) (c && ((seenL m n u).take i).all fun v => seeT m v u) (d && ((seenL m n u).take i).all (sP3 m n u)) e (f && ((seenL m n u).take i).all (sP1 m n u))]] := by
          intro a b c d e f ha hb hc hd he hf k
          induction k with
          | zero =>
            intro i hi
            rw [List.take_of_length_le (by omega), ha, hb, hc, hd, he, hf]
            apply hQ2
            unfold sixB at ih ⊢
            (((try simp (implicitDefEqProofs := false) [hn]); (try simp (implicitDefEqProofs := false) (disch := first | assumption | (try simp only [lens]); omega -splitDisjunctions) [hn])); all_goals try (repeat' ((first | ((with_reducible first | refine And.intro ?_ ?_ | refine Exists.intro ?_ ?_); first | omega | (simp <;> omega)) | (with_reducible refine spl (And.intro ?_ ?_) <;> intro _)) <;> ((try simp (implicitDefEqProofs := false) [hn]); (try simp (implicitDefEqProofs := false) (disch := first | assumption | (try simp only [lens]); omega -splitDisjunctions) [hn])))))
            simpa [hn] using ih
          | succ k ih2 =>
            intro i hi
            have ih2 := ih2 (i + 1) (by omega)
            have hil : i < (seenL m n u).length := by omega
            have hvn := seen_lt hil
            obtain ⟨v, hv⟩ : ∃ v, v = (seenL m n u)[i] := ⟨_, rfl⟩
            have hmv := mem_seen (m := m) (n := n) (u := v) hun
            apply hQ2
            unfold sixB
            (((try simp (implicitDefEqProofs := false) [hn, ← hv, hmv]); (try simp (implicitDefEqProofs := false) (disch := first | assumption | (try simp only [lens]); omega -splitDisjunctions) [hn, ← hv, hmv])); all_goals try (repeat' ((first | ((with_reducible first | refine And.intro ?_ ?_ | refine Exists.intro ?_ ?_); first | omega | (simp <;> omega)) | (with_reducible refine spl (And.intro ?_ ?_) <;> intro _) | (refine CL.clo (memberOf_ref _ _) ?_) | (refine CM.clo (memberOf_ref _ _) ?_) | (refine CD.clo (memberOf_ref _ _) ?_)) <;> ((try simp (implicitDefEqProofs := false) [hn, ← hv, hmv]); (try simp (implicitDefEqProofs := false) (disch := first | assumption | (try simp only [lens]); omega -splitDisjunctions) [hn, ← hv, hmv])))))
            all_goals (
              refine W_of fun Q3 hQ3 => ?_
              have main3 : ∀ x y z w : Bool, (x && sP1 m n u v) = (b && ((seenL m n u).take (i + 1)).all (sP1 m n u)) → y = (c && ((seenL m n u).take (i + 1)).all fun v => seeT m v u) → (z && sP3 m n u v) = (d && ((seenL m n u).take (i + 1)).all (sP3 m n u)) →
                  (w && sP1 m n u v) = (f && ((seenL m n u).take (i + 1)).all (sP1 m n u)) → ∀ k j, j + k = (seenL m n v).length →
                  Q3 [(1, .ptr 0 0 0), (2, .ptr 1 0 0), (3, .list ((List.range n).map fun u => [.list ((seenL m n u).map numRow)])), (4, .ptr 2 0 0), (5, .int .i64 (u : Int)), (6, .int .i64 (i : Int)), (7, .int .i64 (v : Int)), (8, .int .i64 (j : Int))]
                    [.rows 3 [mdl m], .rows 6 [sixB false false false false false false], .rows 6 [sixB a (x && ((seenL m n v).take j).all (seeT m u)) y z e (w && ((seenL m n v).take j).all (seeT m u))]] := by
                intro x y z w hx hy hz hw k
                induction k with
                | zero =>
                  intro j hj
                  rw [List.take_of_length_le (by omega)]
                  have hx : (x && (seenL m n v).all (seeT m u)) = _ := hx
                  have hw : (w && (seenL m n v).all (seeT m u)) = _ := hw
                  rw [hx, hw, hy]
                  apply hQ3
                  unfold sixB at ih2 ⊢
                  (((try simp (implicitDefEqProofs := false) [hn]); (try simp (implicitDefEqProofs := false) (disch := first | assumption | (try simp only [lens]); omega -splitDisjunctions) [hn])); all_goals try (repeat' ((first | ((with_reducible first | refine And.intro ?_ ?_ | refine Exists.intro ?_ ?_); first | omega | (simp <;> omega)) | (with_reducible refine spl (And.intro ?_ ?_) <;> intro _)) <;> ((try simp (implicitDefEqProofs := false) [hn]); (try simp (implicitDefEqProofs := false) (disch := first | assumption | (try simp only [lens]); omega -splitDisjunctions) [hn])))))
                  refine W_of fun Q4 hQ4 => ?_
                  have main4 : ∀ k j, j + k = (seenL m n u).length →
                      Q4 [(1, .ptr 0 0 0), (2, .ptr 1 0 0), (3, .list ((List.range n).map fun u => [.list ((seenL m n u).map numRow)])), (4, .ptr 2 0 0), (5, .int .i64 (u : Int)), (6, .int .i64 (i : Int)), (7, .int .i64 (v : Int)), (9, .int .i64 (j : Int))]
                        [.rows 3 [mdl m], .rows 6 [sixB false false false false false false], .rows 6 [sixB a (b && ((seenL m n u).take (i + 1)).all (sP1 m n u)) (c && ((seenL m n u).take (i + 1)).all fun v => seeT m v u) (z && ((seenL m n u).take j).all (seeT m v)) e (f && ((seenL m n u).take (i + 1)).all (sP1 m n u))]] := by
                    intro k
                    induction k with
                    | zero =>
                      intro j hj
                      rw [List.take_of_length_le (by omega) (i := j)]
                      have hz : (z && (seenL m n u).all (seeT m v)) = _ := hz
                      rw [hz]
                      apply hQ4
                      unfold sixB
                      (((try simp (implicitDefEqProofs := false) [hn]); (try simp (implicitDefEqProofs := false) (disch := first | assumption | (try simp only [lens]); omega -splitDisjunctions) [hn])); all_goals try (repeat' ((first | ((with_reducible first | refine And.intro ?_ ?_ | refine Exists.intro ?_ ?_); first | omega | (simp <;> omega)) | (with_reducible refine spl (And.intro ?_ ?_) <;> intro _)) <;> ((try simp (implicitDefEqProofs := false) [hn]); (try simp (implicitDefEqProofs := false) (disch := first | assumption | (try simp only [lens]); omega -splitDisjunctions) [hn])))))
                      simpa [hn] using ih2
                    | succ k ih4 =>
                      intro j hj
                      have ih4 := ih4 (j + 1) (by omega)
                      have hjl : j < (seenL m n u).length := by omega
                      rw [take_snoc hjl, List.all_append] at ih4
                      have hmw := mem_seen (m := m) (u := v) (seen_lt hjl)
                      apply hQ4
                      unfold sixB at ih4 ⊢
                      (((try simp (implicitDefEqProofs := false) [hn, hmw]); (try simp (implicitDefEqProofs := false) (disch := first | assumption | (try simp only [lens]); omega -splitDisjunctions) [hn, hmw])); all_goals try (repeat' ((first | ((with_reducible first | refine And.intro ?_ ?_ | refine Exists.intro ?_ ?_); first | omega | (simp <;> omega)) | (with_reducible refine spl (And.intro ?_ ?_) <;> intro _) | (refine CL.clo (memberOf_ref _ _) ?_) | (refine CM.clo (memberOf_ref _ _) ?_) | (refine CD.clo (memberOf_ref _ _) ?_)) <;> ((try simp (implicitDefEqProofs := false) [hn, hmw]); (try simp (implicitDefEqProofs := false) (disch := first | assumption | (try simp only [lens]); omega -splitDisjunctions) [hn, hmw])))))
                      all_goals simp_all
                  refine at2 (main4 _ 0 (Nat.zero_add _)) ?_ ?_ <;> simp [sixB, hn]
                | succ k ih3 =>
                  intro j hj
                  have ih3 := ih3 (j + 1) (by omega)
                  have hjl : j < (seenL m n v).length := by omega
                  rw [take_snoc hjl, List.all_append] at ih3
                  have hmw := mem_seen (m := m) (u := u) (seen_lt hjl)
                  apply hQ3
                  unfold sixB at ih3 ⊢
                  (((try simp (implicitDefEqProofs := false) [hn, hmw]); (try simp (implicitDefEqProofs := false) (disch := first | assumption | (try simp only [lens]); omega -splitDisjunctions) [hn, hmw])); all_goals try (repeat' ((first | ((with_reducible first | refine And.intro ?_ ?_ | refine Exists.intro ?_ ?_); first | omega | (simp <;> omega)) | (with_reducible refine spl (And.intro ?_ ?_) <;> intro _) | (refine CL.clo (memberOf_ref _ _) ?_) | (refine CM.clo (memberOf_ref _ _) ?_) | (refine CD.clo (memberOf_ref _ _) ?_)) <;> ((try simp (implicitDefEqProofs := false) [hn, hmw]); (try simp (implicitDefEqProofs := false) (disch := first | assumption | (try simp only [lens]); omega -splitDisjunctions) [hn, hmw])))))
                  all_goals simp_all
              have hsn : ∀ p : Nat → Bool, ((seenL m n u).take (i + 1)).all p = (((seenL m n u).take i).all p && p v) := by
                intro p
                rw [take_snoc hil, List.all_append, ← hv]; simp
              have hB := hsn (sP1 m n u)
              have hC := hsn (fun v => seeT m v u)
              have hD := hsn (sP3 m n u)
              refine at2 (main3 (b && ((seenL m n u).take i).all (sP1 m n u)) (c && ((seenL m n u).take (i + 1)).all fun v => seeT m v u) (d && ((seenL m n u).take i).all (sP3 m n u)) (f && ((seenL m n u).take i).all (sP1 m n u)) (by rw [hB, Bool.and_assoc]) rfl (by rw [hD, Bool.and_assoc]) (by rw [hB, Bool.and_assoc]) _ 0 (Nat.zero_add _)) rfl ?_
              rw [hC]
              clear main3 ih2 hB hC hD hsn hQ2 hQ3
              simp_all [sixB])
        clear ih hQ
        have hA : rsA m (u + 1) = (rsA m u && seeT m u u) := by simp [rsA, List.range_succ]
        have hB : rsB m n (u + 1) = (rsB m n u && (seenL m n u).all (sP1 m n u)) := by simp [rsB, List.range_succ]
        have hC : rsC m n (u + 1) = (rsC m n u && (seenL m n u).all fun v => seeT m v u) := by simp [rsC, List.range_succ]
        have hD : rsD m n (u + 1) = (rsD m n u && (seenL m n u).all (sP3 m n u)) := by simp [rsD, List.range_succ]
        have hE : rsE m n (u + 1) = (rsE m n u && decide (seenL m n u ≠ [])) := by simp [rsE, List.range_succ]
        have hF : rsF m n (u + 1) = (rsF m n u && (!seeT m u u && (seenL m n u).all (sP1 m n u))) := by simp [rsF, List.range_succ]
        refine at2 (main2 (rsA m (u + 1)) (rsB m n u) (rsC m n u) (rsD m n u) (rsE m n (u + 1)) (rsF m n u && !seeT m u u) rfl hB.symm hC.symm hD.symm rfl (by rw [hF, Bool.and_assoc]) _ 0 (Nat.zero_add _)) rfl ?_
        rw [hA, hE]
        clear main2 hA hB hC hD hE hF
        simp_all [sixB])
  refine at2 (main _ 0 (Nat.zero_add _)) ?_ ?_ <;> simp [sixB, rsA, rsB, rsC, rsD, rsE, rsF]
end Go.Proofs.Ytbmpmmbcfabeeaa
