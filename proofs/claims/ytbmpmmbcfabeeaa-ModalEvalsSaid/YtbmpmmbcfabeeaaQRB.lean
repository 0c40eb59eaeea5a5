/-
  sequentref: ModelFault.
-/
import Derived.Test.YtbmpmmbcfabeeaaQRA
import Derived.Test.YtbmpmmbcfabeeaaQRF
namespace Go.Proofs.Ytbmpmmbcfabeeaa
open Go Go.Pv
set_option linter.unusedVariables false
set_option linter.unusedSimpArgs false
set_option maxRecDepth 100000
set_option maxHeartbeats 4000000

def relOK (n : Int) (p : Int × Int) : Bool := decide (0 ≤ p.1 ∧ p.1 < n) && decide (0 ≤ p.2 ∧ p.2 < n)
def relBad (n : Int) : List (Int × Int) → Nat → Option (Int × Int)
  | [], _ => none
  | p :: r, i => if relOK n p = true then relBad n r (i + 1) else some (3, (i : Int))
def trBad : List (List ByteArray) → Nat → Option (Int × Int)
  | [], _ => none
  | l :: r, w => if 30 < l.length then some (2, (w : Int)) else if l.all isNameB = true then trBad r (w + 1) else some (8, (w : Int))
def mfault (m : Mdl) (worlds pairs : Int) : Int × Int :=
  if m.n < 1 ∨ worlds < m.n ∨ pairs < m.rel.length then (2, 0) else if (m.tr.length : Int) ≠ m.n then (9, 0) else ((relBad m.n m.rel 0).or (trBad m.tr 0)).getD (0, 0)
theorem relBad_none {n : Int} : ∀ (l : List (Int × Int)) (i : Nat), relBad n l i = none → ∀ p ∈ l, 0 ≤ p.1 ∧ p.1 < n ∧ 0 ≤ p.2 ∧ p.2 < n
  | [], _, _, p, hp => by cases hp
  | a :: r, i, h, p, hp => by
    unfold relBad at h
    split at h
    · rename_i ha
      cases hp with
      | head => simp [relOK] at ha; omega
      | tail _ hp => exact relBad_none r _ h p hp
    · cases h
theorem relBad_code {n : Int} : ∀ (l : List (Int × Int)) (i : Nat) x, relBad n l i = some x → x.1 ≠ 0
  | [], _, x, h => by cases h
  | a :: r, i, x, h => by
    unfold relBad at h
    split at h
    · exact relBad_code r _ x h
    · cases h; simp
theorem trBad_code : ∀ (l : List (List ByteArray)) (i : Nat) x, trBad l i = some x → x.1 ≠ 0
  | [], _, x, h => by cases h
  | a :: r, i, x, h => by
    unfold trBad at h
    split at h
    · cases h; simp
    · split at h
      · exact trBad_code r _ x h
      · cases h; simp
theorem mfault_zero {m : Mdl} {worlds pairs : Int} (h : (mfault m worlds pairs).1 = 0) (hw : worlds ≤ 1024) : ∃ n : Nat, MdOK m n ∧ m.tr.length = n ∧ 1 ≤ n := by
  unfold mfault at h
  split at h
  · simp at h
  · split at h
    · simp at h
    · rename_i h1 h2
      refine ⟨m.tr.length, ⟨by omega, by omega, ?_⟩, rfl, by omega⟩
      cases hr : relBad m.n m.rel 0 with
      | none =>
        have := relBad_none _ _ hr
        rw [show m.n = (m.tr.length : Int) by omega] at this
        exact this
      | some x => rw [hr] at h; exact absurd h (relBad_code _ _ x hr)
def x42_T5 : XC := .seq (.reg [⟨some 105,.build 29 #[],none⟩,⟨none,.store 29 (.tmp 6) (.tmp 105),none⟩]) (.ret)
def x42_L6 : XC := .seq (.seq (.reg [⟨some 83,.move (.tmp 10),none⟩,⟨some 84,.fieldAddr 61 (.tmp 3) 2,none⟩,⟨some 85,.load 59 (.tmp 84),none⟩,⟨some 86,.move (.tmp 9),none⟩,⟨some 87,.indexAddr 59 (.tmp 85) (.tmp 86),none⟩,⟨some 88,.load 53 (.tmp 87),none⟩,⟨some 89,.call ⟨.builtin .len,#[.tmp 88],#[53]⟩,none⟩,⟨some 90,.binOp .lss 3 (.tmp 83) (.tmp 89) 3,none⟩]) (.cond (.tmp 90) (.skip) (.exit 6))) (.seq (.block 7 (.seq (.reg [⟨some 93,.fieldAddr 61 (.tmp 3) 2,none⟩,⟨some 94,.load 59 (.tmp 93),none⟩,⟨some 95,.move (.tmp 9),none⟩,⟨some 96,.indexAddr 59 (.tmp 94) (.tmp 95),none⟩,⟨some 97,.load 53 (.tmp 96),none⟩,⟨some 98,.move (.tmp 10),none⟩,⟨some 99,.indexAddr 53 (.tmp 97) (.tmp 98),none⟩,⟨some 100,.load 9 (.tmp 99),none⟩,⟨some 101,.call ⟨.value (.func 32),#[.tmp 100],#[9]⟩,none⟩,⟨some 102,.unOp .not 4 (.tmp 101),none⟩]) (.cond (.tmp 102) (.seq (.reg [⟨some 103,.move (.tmp 9),none⟩,⟨some 104,.call ⟨.value (.func 48),#[.const (.int .i64 8),.tmp 103],#[3,3]⟩,none⟩,⟨none,.store 29 (.tmp 6) (.tmp 104),none⟩]) (.ret)) (.skip)))) (.reg [⟨some 91,.move (.tmp 10),none⟩,⟨some 92,.binOp .add 3 (.tmp 91) (.const (.int .i64 1)) 3,none⟩,⟨some 10,.assign (.tmp 92),none⟩]))
def x42_L4 : XC := .seq (.seq (.reg [⟨some 68,.move (.tmp 9),none⟩,⟨some 69,.fieldAddr 61 (.tmp 3) 0,none⟩,⟨some 70,.load 3 (.tmp 69),none⟩,⟨some 71,.binOp .lss 3 (.tmp 68) (.tmp 70) 3,none⟩]) (.cond (.tmp 71) (.skip) (.exit 4))) (.seq (.block 5 (.seq (.seq (.reg [⟨some 74,.fieldAddr 61 (.tmp 3) 2,none⟩,⟨some 75,.load 59 (.tmp 74),none⟩,⟨some 76,.move (.tmp 9),none⟩,⟨some 77,.indexAddr 59 (.tmp 75) (.tmp 76),none⟩,⟨some 78,.load 53 (.tmp 77),none⟩,⟨some 79,.call ⟨.builtin .len,#[.tmp 78],#[53]⟩,none⟩,⟨some 80,.binOp .gtr 3 (.tmp 79) (.const (.int .i64 30)) 3,none⟩]) (.cond (.tmp 80) (.seq (.reg [⟨some 81,.move (.tmp 9),none⟩,⟨some 82,.call ⟨.value (.func 48),#[.const (.int .i64 2),.tmp 81],#[3,3]⟩,none⟩,⟨none,.store 29 (.tmp 6) (.tmp 82),none⟩]) (.ret)) (.skip))) (.seq (.reg [⟨some 10,.assign (.const (.int .i64 0)),none⟩]) (.bloop 6 x42_L6)))) (.reg [⟨some 72,.move (.tmp 9),none⟩,⟨some 73,.binOp .add 3 (.tmp 72) (.const (.int .i64 1)) 3,none⟩,⟨some 9,.assign (.tmp 73),none⟩]))
def x42_T2 : XC := .seq (.seq (.reg [⟨some 9,.assign (.const (.int .i64 0)),none⟩]) (.bloop 4 x42_L4)) (x42_T5)
def x42_L2 : XC := .seq (.seq (.reg [⟨some 42,.move (.tmp 8),none⟩,⟨some 43,.binOp .lss 3 (.tmp 42) (.const (.int .i64 2)) 3,none⟩]) (.cond (.tmp 43) (.skip) (.exit 2))) (.seq (.block 3 (.seq (.drawn 11 [⟨some 46,.fieldAddr 61 (.tmp 3) 1,none⟩,⟨some 47,.load 58 (.tmp 46),none⟩,⟨some 48,.move (.tmp 7),none⟩,⟨some 49,.move (.tmp 8),none⟩,⟨some 50,.indexAddr 58 (.tmp 47) (.tmp 48),none⟩,⟨some 51,.indexAddr 130 (.tmp 50) (.tmp 49),none⟩,⟨some 52,.load 3 (.tmp 51),none⟩,⟨some 53,.binOp .lss 3 (.tmp 52) (.const (.int .i64 0)) 3,none⟩,⟨some 54,.move (.tmp 53),none⟩,⟨some 55,.fieldAddr 61 (.tmp 3) 1,some (some 54,false)⟩,⟨some 56,.load 58 (.tmp 55),some (some 54,false)⟩,⟨some 57,.move (.tmp 7),some (some 54,false)⟩,⟨some 58,.move (.tmp 8),some (some 54,false)⟩,⟨some 59,.indexAddr 58 (.tmp 56) (.tmp 57),some (some 54,false)⟩,⟨some 60,.indexAddr 130 (.tmp 59) (.tmp 58),some (some 54,false)⟩,⟨some 61,.load 3 (.tmp 60),some (some 54,false)⟩,⟨some 62,.fieldAddr 61 (.tmp 3) 0,some (some 54,false)⟩,⟨some 63,.load 3 (.tmp 62),some (some 54,false)⟩,⟨some 64,.binOp .geq 3 (.tmp 61) (.tmp 63) 3,some (some 54,false)⟩,⟨some 65,.pick (.tmp 54) (.const (.bool true)) (.tmp 64),none⟩]) (.cond (.tmp 65) (.seq (.reg [⟨some 66,.move (.tmp 7),none⟩,⟨some 67,.call ⟨.value (.func 48),#[.const (.int .i64 3),.tmp 66],#[3,3]⟩,none⟩,⟨none,.store 29 (.tmp 6) (.tmp 67),none⟩]) (.ret)) (.skip)))) (.reg [⟨some 44,.move (.tmp 8),none⟩,⟨some 45,.binOp .add 3 (.tmp 44) (.const (.int .i64 1)) 3,none⟩,⟨some 8,.assign (.tmp 45),none⟩]))
def x42_L0 : XC := .seq (.seq (.reg [⟨some 35,.move (.tmp 7),none⟩,⟨some 36,.fieldAddr 61 (.tmp 3) 1,none⟩,⟨some 37,.load 58 (.tmp 36),none⟩,⟨some 38,.call ⟨.builtin .len,#[.tmp 37],#[58]⟩,none⟩,⟨some 39,.binOp .lss 3 (.tmp 35) (.tmp 38) 3,none⟩]) (.cond (.tmp 39) (.skip) (.exit 0))) (.seq (.block 1 (.seq (.reg [⟨some 8,.assign (.const (.int .i64 0)),none⟩]) (.bloop 2 x42_L2))) (.reg [⟨some 40,.move (.tmp 7),none⟩,⟨some 41,.binOp .add 3 (.tmp 40) (.const (.int .i64 1)) 3,none⟩,⟨some 7,.assign (.tmp 41),none⟩]))
def x42 : XC := .seq (.reg [⟨some 3,.box 61 (.tmp 0),none⟩,⟨some 6,.alloc 29,none⟩]) (.seq (.seq (.reg [⟨some 11,.fieldAddr 61 (.tmp 3) 0,none⟩,⟨some 12,.load 3 (.tmp 11),none⟩,⟨some 13,.binOp .lss 3 (.tmp 12) (.const (.int .i64 1)) 3,none⟩,⟨some 14,.move (.tmp 13),none⟩,⟨some 15,.fieldAddr 61 (.tmp 3) 0,some (some 14,false)⟩,⟨some 16,.load 3 (.tmp 15),some (some 14,false)⟩,⟨some 17,.move (.tmp 1),some (some 14,false)⟩,⟨some 18,.binOp .gtr 3 (.tmp 16) (.tmp 17) 3,some (some 14,false)⟩,⟨some 19,.pick (.tmp 14) (.const (.bool true)) (.tmp 18),none⟩,⟨some 20,.move (.tmp 19),none⟩,⟨some 21,.fieldAddr 61 (.tmp 3) 1,some (some 20,false)⟩,⟨some 22,.load 58 (.tmp 21),some (some 20,false)⟩,⟨some 23,.call ⟨.builtin .len,#[.tmp 22],#[58]⟩,some (some 20,false)⟩,⟨some 24,.move (.tmp 2),some (some 20,false)⟩,⟨some 25,.binOp .gtr 3 (.tmp 23) (.tmp 24) 3,some (some 20,false)⟩,⟨some 26,.pick (.tmp 20) (.const (.bool true)) (.tmp 25),none⟩]) (.cond (.tmp 26) (.seq (.reg [⟨some 27,.call ⟨.value (.func 48),#[.const (.int .i64 2),.const (.int .i64 0)],#[3,3]⟩,none⟩,⟨none,.store 29 (.tmp 6) (.tmp 27),none⟩]) (.ret)) (.skip))) (.seq (.seq (.reg [⟨some 28,.fieldAddr 61 (.tmp 3) 2,none⟩,⟨some 29,.load 59 (.tmp 28),none⟩,⟨some 30,.call ⟨.builtin .len,#[.tmp 29],#[59]⟩,none⟩,⟨some 31,.fieldAddr 61 (.tmp 3) 0,none⟩,⟨some 32,.load 3 (.tmp 31),none⟩,⟨some 33,.binOp .neq 3 (.tmp 30) (.tmp 32) 3,none⟩]) (.cond (.tmp 33) (.seq (.reg [⟨some 34,.call ⟨.value (.func 48),#[.const (.int .i64 9),.const (.int .i64 0)],#[3,3]⟩,none⟩,⟨none,.store 29 (.tmp 6) (.tmp 34),none⟩]) (.ret)) (.skip))) (.seq (.seq (.reg [⟨some 7,.assign (.const (.int .i64 0)),none⟩]) (.bloop 0 x42_L0)) (x42_T2))))
@[simp] theorem x42_s {C : WC} {e : AE} {s : Store} {K : KS} : type_of% (@X_at C e s K _ _ x42_T5.eq_1) ∧ type_of% (@X_at C e s K _ _ x42_L6.eq_1) ∧ type_of% (@X_at C e s K _ _ x42_L4.eq_1) ∧ type_of% (@X_at C e s K _ _ x42_T2.eq_1) ∧ type_of% (@X_at C e s K _ _ x42_L2.eq_1) ∧ type_of% (@X_at C e s K _ _ x42_L0.eq_1) ∧ type_of% (@X_at C e s K _ _ x42.eq_1) := ⟨X_at x42_T5.eq_1, X_at x42_L6.eq_1, X_at x42_L4.eq_1, X_at x42_T2.eq_1, X_at x42_L2.eq_1, X_at x42_L0.eq_1, X_at x42.eq_1⟩
def an42 : Ann := ⟨[(11, .mix 18)], [(6, [], [3, 6, 9, 10], [3, 6, 9]), (4, [], [3, 6, 9], [6]), (2, [], [3, 6, 7, 8], [3, 6, 7]), (0, [], [3, 6, 7], [3, 6])], []⟩
def cx42 (P : Program) (m : Nat) : WC := ⟨P, m, an42⟩
@[simp] theorem cx42_a {P : Program} {m : Nat} : (cx42 P m).P = P ∧ (cx42 P m).m = m ∧ (cx42 P m).A.clsOf 11 = .mix 18 ∧ (cx42 P m).A.frzOf 11 = [] ∧ (cx42 P m).A.loopOf 6 = ([], [3, 6, 9, 10], [3, 6, 9]) ∧ (cx42 P m).A.loopOf 4 = ([], [3, 6, 9], [6]) ∧ (cx42 P m).A.loopOf 2 = ([], [3, 6, 7, 8], [3, 6, 7]) ∧ (cx42 P m).A.loopOf 0 = ([], [3, 6, 7], [3, 6]) := ⟨rfl, rfl, rfl, rfl, rfl, rfl, rfl, rfl⟩
instance {P : Program} {m f : Nat} [h : EnT P f] : EnT (cx42 P m).P f := h
theorem chk42 : ∀ c, Try.f42.body = some c → chkC Try.f42.ntmps an42 c = true := by intro c h; obtain rfl := Option.some.inj h; decide +kernel
theorem op42 {args : List PV} {v : PV} (h : X (cx42 Try.prog 0) x42 (argsA 0 args) [] (.fin [.cell 6 29] fun v1 s1 => deref s1 6 v1 = v)) (hl : args.length ≤ Try.f42.ntmps := by rw [Try.ntmps42]; simp) : CallOK Try.prog 42 args [] v [] :=
  callX (m := 0) (cx42 Try.prog 0) x42 rfl rfl (by kernel_rfl) Try.func42 rfl rfl hl mixed (chk42 _ rfl) (by rw [Try.results42]; exact h)

theorem relBad_drop {n : Int} {l : List (Int × Int)} {i : Nat} (h : i < l.length) : relBad n (l.drop i) i = if relOK n l[i] = true then relBad n (l.drop (i + 1)) (i + 1) else some (3, (i : Int)) := by
  rw [List.drop_eq_getElem_cons h, relBad]
theorem trBad_drop {l : List (List ByteArray)} {i : Nat} (h : i < l.length) : trBad (l.drop i) i = if 30 < l[i].length then some (2, (i : Int)) else if l[i].all isNameB = true then trBad (l.drop (i + 1)) (i + 1) else some (8, (i : Int)) := by
  rw [List.drop_eq_getElem_cons h, trBad]
theorem ModelFault_ref (m : Mdl) (worlds pairs : Int) : CallOK Try.prog 42 [.agg (mdl m), .int .i64 worlds, .int .i64 pairs] [] (.agg [.int .i64 (mfault m worlds pairs).1, .int .i64 (mfault m worlds pairs).2]) [] := by
  refine op42 ?_
  obtain ⟨n, rel, tr⟩ := m
  unfold mfault
  simp only
  by_cases hA : n < 1 ∨ worlds < n ∨ pairs < rel.length
  · rw [if_pos hA]
    (((try simp (implicitDefEqProofs := false)); (try simp (implicitDefEqProofs := false) (disch := first | assumption | (try simp only [lens]); omega -splitDisjunctions))); all_goals try (repeat' ((first | ((with_reducible first | refine And.intro ?_ ?_ | refine Exists.intro ?_ ?_); first | omega | (simp <;> omega)) | (with_reducible refine spl (And.intro ?_ ?_) <;> intro _) | (refine CL.clo (F_ref _ _) ?_) | (refine CM.clo (F_ref _ _) ?_) | (refine CD.clo (F_ref _ _) ?_)) <;> ((try simp (implicitDefEqProofs := false)); (try simp (implicitDefEqProofs := false) (disch := first | assumption | (try simp only [lens]); omega -splitDisjunctions))))))
    all_goals (exfalso; omega)
  · rw [if_neg hA]
    simp only [not_or, Int.not_lt] at hA
    obtain ⟨hA1, hA2, hA3⟩ := hA
    by_cases hB : (tr.length : Int) = n
    · rw [if_neg (by simpa using hB)]
      (((try simp (implicitDefEqProofs := false)); (try simp (implicitDefEqProofs := false) (disch := first | assumption | (try simp only [lens]); omega -splitDisjunctions))); all_goals try (repeat' ((first | ((with_reducible first | refine And.intro ?_ ?_ | refine Exists.intro ?_ ?_); first | omega | (simp <;> omega)) | (with_reducible refine spl (And.intro ?_ ?_) <;> intro _) | (refine CL.clo (F_ref _ _) ?_) | (refine CM.clo (F_ref _ _) ?_) | (refine CD.clo (F_ref _ _) ?_)) <;> ((try simp (implicitDefEqProofs := false)); (try simp (implicitDefEqProofs := false) (disch := first | assumption | (try simp only [lens]); omega -splitDisjunctions))))))
      all_goals try (exfalso; omega)
      refine W_of fun Q hQ => ?_
      have main : ∀ k i, i + k = rel.length → relBad n rel 0 = relBad n (rel.drop i) i → Q [(3, .ptr 0 0 0), (6, .ptr 1 0 0), (7, .int .i64 (i : Int))] [.rows 3 [mdl ⟨n, rel, tr⟩], .rows 2 [[.int .i64 0, .int .i64 0]]] := by
        intro k
        induction k with
        | zero =>
          intro i hi hr
          rw [List.drop_of_length_le (by omega)] at hr
          apply hQ
          (((try simp (implicitDefEqProofs := false)); (try simp (implicitDefEqProofs := false) (disch := first | assumption | (try simp only [lens]); omega -splitDisjunctions))); all_goals try (repeat' ((first | ((with_reducible first | refine And.intro ?_ ?_ | refine Exists.intro ?_ ?_); first | omega | (simp <;> omega)) | (with_reducible refine spl (And.intro ?_ ?_) <;> intro _)) <;> ((try simp (implicitDefEqProofs := false)); (try simp (implicitDefEqProofs := false) (disch := first | assumption | (try simp only [lens]); omega -splitDisjunctions))))))
          rw [hr]
          simp only [relBad, Option.none_or]
          refine W_of fun Q2 hQ2 => ?_
          have main2 : ∀ k w, w + k = tr.length → trBad tr 0 = trBad (tr.drop w) w → Q2 [(3, .ptr 0 0 0), (6, .ptr 1 0 0), (9, .int .i64 (w : Int))] [.rows 3 [mdl ⟨n, rel, tr⟩], .rows 2 [[.int .i64 0, .int .i64 0]]] := by
            intro k
            induction k with
            | zero =>
              intro w hw ht
              rw [List.drop_of_length_le (by omega)] at ht
              apply hQ2
              (((try simp (implicitDefEqProofs := false)); (try simp (implicitDefEqProofs := false) (disch := first | assumption | (try simp only [lens]); omega -splitDisjunctions))); all_goals try (repeat' ((first | ((with_reducible first | refine And.intro ?_ ?_ | refine Exists.intro ?_ ?_); first | omega | (simp <;> omega)) | (with_reducible refine spl (And.intro ?_ ?_) <;> intro _)) <;> ((try simp (implicitDefEqProofs := false)); (try simp (implicitDefEqProofs := false) (disch := first | assumption | (try simp only [lens]); omega -splitDisjunctions))))))
              all_goals simp [ht, trBad]
            | succ k ih2 =>
              intro w hw ht
              have hlt : w < tr.length := by omega
              rw [trBad_drop hlt] at ht
              have ih2 := ih2 (w + 1) (by omega)
              apply hQ2
              by_cases h30 : 30 < tr[w].length
              · rw [if_pos h30] at ht
                rw [ht]
                (((try simp (implicitDefEqProofs := false)); (try simp (implicitDefEqProofs := false) (disch := first | assumption | (try simp only [lens]); omega -splitDisjunctions))); all_goals try (repeat' ((first | ((with_reducible first | refine And.intro ?_ ?_ | refine Exists.intro ?_ ?_); first | omega | (simp <;> omega)) | (with_reducible refine spl (And.intro ?_ ?_) <;> intro _) | (refine CL.clo (F_ref _ _) ?_) | (refine CM.clo (F_ref _ _) ?_) | (refine CD.clo (F_ref _ _) ?_)) <;> ((try simp (implicitDefEqProofs := false)); (try simp (implicitDefEqProofs := false) (disch := first | assumption | (try simp only [lens]); omega -splitDisjunctions))))))
                all_goals simp
              · rw [if_neg h30] at ht
                (((try simp (implicitDefEqProofs := false)); (try simp (implicitDefEqProofs := false) (disch := first | assumption | (try simp only [lens]); omega -splitDisjunctions))); all_goals try (repeat' ((first | ((with_reducible first | refine And.intro ?_ ?_ | refine Exists.intro ?_ ?_); first | omega | (simp <;> omega)) | (with_reducible refine spl (And.intro ?_ ?_) <;> intro _) | (refine CL.clo (F_ref _ _) ?_) | (refine CM.clo (F_ref _ _) ?_) | (refine CD.clo (F_ref _ _) ?_)) <;> ((try simp (implicitDefEqProofs := false)); (try simp (implicitDefEqProofs := false) (disch := first | assumption | (try simp only [lens]); omega -splitDisjunctions))))))
                refine W_of fun Q3 hQ3 => ?_
                have main3 : ∀ k j, j + k = tr[w].length → (∀ x (h : x < tr[w].length), x < j → isNameB tr[w][x] = true) → Q3 [(3, .ptr 0 0 0), (6, .ptr 1 0 0), (9, .int .i64 (w : Int)), (10, .int .i64 (j : Int))] [.rows 3 [mdl ⟨n, rel, tr⟩], .rows 2 [[.int .i64 0, .int .i64 0]]] := by
                  intro k
                  induction k with
                  | zero =>
                    intro j hj hall
                    have hal : tr[w].all isNameB = true := by
                      rw [List.all_eq_true]
                      intro x hx
                      obtain ⟨y, hy, rfl⟩ := List.mem_iff_getElem.1 hx
                      exact hall y hy (by omega)
                    rw [if_pos hal] at ht
                    apply hQ3
                    (((try simp (implicitDefEqProofs := false)); (try simp (implicitDefEqProofs := false) (disch := first | assumption | (try simp only [lens]); omega -splitDisjunctions))); all_goals try (repeat' ((first | ((with_reducible first | refine And.intro ?_ ?_ | refine Exists.intro ?_ ?_); first | omega | (simp <;> omega)) | (with_reducible refine spl (And.intro ?_ ?_) <;> intro _)) <;> ((try simp (implicitDefEqProofs := false)); (try simp (implicitDefEqProofs := false) (disch := first | assumption | (try simp only [lens]); omega -splitDisjunctions))))))
                    refine at2 (ih2 ht) ?_ ?_ <;> simp
                  | succ k ih3 =>
                    intro j hj hall
                    have hjl : j < tr[w].length := by omega
                    by_cases hb : isNameB tr[w][j] = true
                    · have ih3 := ih3 (j + 1) (by omega) (fun x h hx => by
                        by_cases e : x = j
                        · subst e; exact hb
                        · exact hall x h (by omega))
                      apply hQ3
                      (((try simp (implicitDefEqProofs := false) [hb]); (try simp (implicitDefEqProofs := false) (disch := first | assumption | (try simp only [lens]); omega -splitDisjunctions) [hb])); all_goals try (repeat' ((first | ((with_reducible first | refine And.intro ?_ ?_ | refine Exists.intro ?_ ?_); first | omega | (simp <;> omega)) | (with_reducible refine spl (And.intro ?_ ?_) <;> intro _) | (refine CL.clo (IsName_ref _) ?_) | (refine CM.clo (IsName_ref _) ?_) | (refine CD.clo (IsName_ref _) ?_) | (refine CL.clo (F_ref _ _) ?_) | (refine CM.clo (F_ref _ _) ?_) | (refine CD.clo (F_ref _ _) ?_)) <;> ((try simp (implicitDefEqProofs := false) [hb]); (try simp (implicitDefEqProofs := false) (disch := first | assumption | (try simp only [lens]); omega -splitDisjunctions) [hb])))))
                      all_goals simpa using ih3
                    · have hal : ¬ tr[w].all isNameB = true := by
                        rw [List.all_eq_true]
                        intro h
                        exact hb (h _ (List.getElem_mem hjl))
                      rw [if_neg hal] at ht
                      have hb : isNameB tr[w][j] = false := by simpa using hb
                      apply hQ3
                      (((try simp (implicitDefEqProofs := false) [hb]); (try simp (implicitDefEqProofs := false) (disch := first | assumption | (try simp only [lens]); omega -splitDisjunctions) [hb])); all_goals try (repeat' ((first | ((with_reducible first | refine And.intro ?_ ?_ | refine Exists.intro ?_ ?_); first | omega | (simp <;> omega)) | (with_reducible refine spl (And.intro ?_ ?_) <;> intro _) | (refine CL.clo (IsName_ref _) ?_) | (refine CM.clo (IsName_ref _) ?_) | (refine CD.clo (IsName_ref _) ?_) | (refine CL.clo (F_ref _ _) ?_) | (refine CM.clo (F_ref _ _) ?_) | (refine CD.clo (F_ref _ _) ?_)) <;> ((try simp (implicitDefEqProofs := false) [hb]); (try simp (implicitDefEqProofs := false) (disch := first | assumption | (try simp only [lens]); omega -splitDisjunctions) [hb])))))
                      all_goals simp [ht]
                refine at2 (main3 _ 0 (Nat.zero_add _) (fun x h hx => by omega)) ?_ ?_ <;> simp
          refine at2 (main2 _ 0 (Nat.zero_add _) rfl) ?_ ?_ <;> simp
        | succ k ih =>
          intro i hi hr
          have hlt : i < rel.length := by omega
          rw [relBad_drop hlt] at hr
          have ih := ih (i + 1) (by omega)
          apply hQ
          (((try simp (implicitDefEqProofs := false)); (try simp (implicitDefEqProofs := false) (disch := first | assumption | (try simp only [lens]); omega -splitDisjunctions))); all_goals try (repeat' ((first | ((with_reducible first | refine And.intro ?_ ?_ | refine Exists.intro ?_ ?_); first | omega | (simp <;> omega)) | (with_reducible refine spl (And.intro ?_ ?_) <;> intro _)) <;> ((try simp (implicitDefEqProofs := false)); (try simp (implicitDefEqProofs := false) (disch := first | assumption | (try simp only [lens]); omega -splitDisjunctions))))))
          refine W_of fun Q2 hQ2 => ?_
          have q2 : relOK n rel[i] = true → Q2 [(3, .ptr 0 0 0), (6, .ptr 1 0 0), (7, .int .i64 (i : Int)), (8, .int .i64 2)] [.rows 3 [mdl ⟨n, rel, tr⟩], .rows 2 [[.int .i64 0, .int .i64 0]]] := by
            intro hok
            rw [if_pos hok] at hr
            apply hQ2
            (((try simp (implicitDefEqProofs := false)); (try simp (implicitDefEqProofs := false) (disch := first | assumption | (try simp only [lens]); omega -splitDisjunctions))); all_goals try (repeat' ((first | ((with_reducible first | refine And.intro ?_ ?_ | refine Exists.intro ?_ ?_); first | omega | (simp <;> omega)) | (with_reducible refine spl (And.intro ?_ ?_) <;> intro _)) <;> ((try simp (implicitDefEqProofs := false)); (try simp (implicitDefEqProofs := false) (disch := first | assumption | (try simp only [lens]); omega -splitDisjunctions))))))
            refine at2 (ih hr) ?_ ?_ <;> simp
          have q1 : 0 ≤ rel[i].1 → rel[i].1 < n → Q2 [(3, .ptr 0 0 0), (6, .ptr 1 0 0), (7, .int .i64 (i : Int)), (8, .int .i64 1)] [.rows 3 [mdl ⟨n, rel, tr⟩], .rows 2 [[.int .i64 0, .int .i64 0]]] := by
            intro h1 h2
            apply hQ2
            by_cases hok : relOK n rel[i] = true
            · have q2 := q2 hok
              simp [relOK] at hok
              (((try simp (implicitDefEqProofs := false)); (try simp (implicitDefEqProofs := false) (disch := first | assumption | (try simp only [lens]); omega -splitDisjunctions))); all_goals try (repeat' ((first | ((with_reducible first | refine And.intro ?_ ?_ | refine Exists.intro ?_ ?_); first | omega | (simp <;> omega)) | (with_reducible refine spl (And.intro ?_ ?_) <;> intro _) | (refine CL.clo (F_ref _ _) ?_) | (refine CM.clo (F_ref _ _) ?_) | (refine CD.clo (F_ref _ _) ?_)) <;> ((try simp (implicitDefEqProofs := false)); (try simp (implicitDefEqProofs := false) (disch := first | assumption | (try simp only [lens]); omega -splitDisjunctions))))))
              all_goals first | (exfalso; omega) | simpa using q2
            · rw [if_neg hok] at hr
              rw [hr]
              simp [relOK] at hok
              (((try simp (implicitDefEqProofs := false)); (try simp (implicitDefEqProofs := false) (disch := first | assumption | (try simp only [lens]); omega -splitDisjunctions))); all_goals try (repeat' ((first | ((with_reducible first | refine And.intro ?_ ?_ | refine Exists.intro ?_ ?_); first | omega | (simp <;> omega)) | (with_reducible refine spl (And.intro ?_ ?_) <;> intro _) | (refine CL.clo (F_ref _ _) ?_) | (refine CM.clo (F_ref _ _) ?_) | (refine CD.clo (F_ref _ _) ?_)) <;> ((try simp (implicitDefEqProofs := false)); (try simp (implicitDefEqProofs := false) (disch := first | assumption | (try simp only [lens]); omega -splitDisjunctions))))))
              all_goals first | (exfalso; omega) | simp
          apply hQ2
          by_cases hok : 0 ≤ rel[i].1 ∧ rel[i].1 < n
          · have q1 := q1 hok.1 hok.2
            (((try simp (implicitDefEqProofs := false)); (try simp (implicitDefEqProofs := false) (disch := first | assumption | (try simp only [lens]); omega -splitDisjunctions))); all_goals try (repeat' ((first | ((with_reducible first | refine And.intro ?_ ?_ | refine Exists.intro ?_ ?_); first | omega | (simp <;> omega)) | (with_reducible refine spl (And.intro ?_ ?_) <;> intro _) | (refine CL.clo (F_ref _ _) ?_) | (refine CM.clo (F_ref _ _) ?_) | (refine CD.clo (F_ref _ _) ?_)) <;> ((try simp (implicitDefEqProofs := false)); (try simp (implicitDefEqProofs := false) (disch := first | assumption | (try simp only [lens]); omega -splitDisjunctions))))))
            all_goals first | (exfalso; omega) | simpa using q1
          · have hok2 : ¬ relOK n rel[i] = true := by simp [relOK]; omega
            rw [if_neg hok2] at hr
            rw [hr]
            (((try simp (implicitDefEqProofs := false)); (try simp (implicitDefEqProofs := false) (disch := first | assumption | (try simp only [lens]); omega -splitDisjunctions))); all_goals try (repeat' ((first | ((with_reducible first | refine And.intro ?_ ?_ | refine Exists.intro ?_ ?_); first | omega | (simp <;> omega)) | (with_reducible refine spl (And.intro ?_ ?_) <;> intro _) | (refine CL.clo (F_ref _ _) ?_) | (refine CM.clo (F_ref _ _) ?_) | (refine CD.clo (F_ref _ _) ?_)) <;> ((try simp (implicitDefEqProofs := false)); (try simp (implicitDefEqProofs := false) (disch := first | assumption | (try simp only [lens]); omega -splitDisjunctions))))))
            all_goals first | (exfalso; omega) | simp
      refine at2 (main _ 0 (Nat.zero_add _) rfl) ?_ ?_ <;> simp
    · rw [if_pos (by simpa using hB)]
      (((try simp (implicitDefEqProofs := false)); (try simp (implicitDefEqProofs := false) (disch := first | assumption | (try simp only [lens]); omega -splitDisjunctions))); all_goals try (repeat' ((first | ((with_reducible first | refine And.intro ?_ ?_ | refine Exists.intro ?_ ?_); first | omega | (simp <;> omega)) | (with_reducible refine spl (And.intro ?_ ?_) <;> intro _) | (refine CL.clo (F_ref _ _) ?_) | (refine CM.clo (F_ref _ _) ?_) | (refine CD.clo (F_ref _ _) ?_)) <;> ((try simp (implicitDefEqProofs := false)); (try simp (implicitDefEqProofs := false) (disch := first | assumption | (try simp only [lens]); omega -splitDisjunctions))))))
      all_goals (exfalso; omega)
end Go.Proofs.Ytbmpmmbcfabeeaa
