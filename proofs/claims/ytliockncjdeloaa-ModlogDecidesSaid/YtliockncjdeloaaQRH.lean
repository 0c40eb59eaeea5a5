/-
  sequentref: what ValidIn asks of two sets.
-/
import Derived.Test.YtliockncjdeloaaQRG
namespace Go.Proofs.Ytliockncjdeloaa
open Go Go.Pv
set_option linter.unusedVariables false
set_option linter.unusedSimpArgs false
set_option maxRecDepth 100000
set_option maxHeartbeats 4000000

def kdP (l : List Fm) (i : Nat) : Int := ((l[i]?).map Fm.kind).getD 0
noncomputable def inP (l : List Fm) (i : Nat) : Nat := (sceneOf 0 l []).kid i 0
noncomputable def modL (l : List Fm) (n : Nat) : List Nat := (List.range n).filter fun i => decide (kdP l i = 8) || decide (kdP l i = 9)
def demB (l : List Fm) (x i : Nat) : Bool := x.testBit i == decide (kdP l i = 8)
noncomputable def inRow (l : List Fm) (i : Nat) : List PV := numRow (inP l i)
instance (l : List Fm) : FlatRow (inRow l) := ⟨fun x => FlatRow.flat (g := numRow) _⟩
theorem inRow_eq {l : List Fm} {i : Nat} : inRow l i = [.int .i64 (inP l i : Int)] := rfl
theorem kdP_at {l : List Fm} {i : Nat} (h : i < l.length) : kdP l i = l[i].kind := by simp [kdP, h]
theorem mem_modL {l : List Fm} {n i : Nat} : i ∈ modL l n ↔ i < n ∧ (kdP l i = 8 ∨ kdP l i = 9) := by simp [modL]
noncomputable def mayP (lg : Nat) (l : List Fm) (x y i : Nat) : Bool :=
  !(demB l x i && (y.testBit (inP l i) != decide (kdP l i = 8))) && (!(decide (lg = 7) && demB l y i && (x.testBit (inP l i) != decide (kdP l i = 8))) &&
    (!((decide (lg = 4) || decide (lg = 5) || decide (lg = 8)) && demB l x i && !demB l y i) && !(decide (lg = 6) && (demB l x i != demB l y i))))
noncomputable def mayB (lg : Nat) (l : List Fm) (x y : Nat) : Bool := (modL l l.length).all (mayP lg l x y) && (decide (lg ≠ 8) || (modL l l.length).any fun i => demB l y i && !demB l x i)
theorem mayP_iff {lg : Nat} {l : List Fm} {x y i : Nat} : mayP lg l x y i = true ↔ (demB l x i = true → y.testBit (inP l i) = decide (kdP l i = 8)) ∧ (lg = 7 → demB l y i = true → x.testBit (inP l i) = decide (kdP l i = 8)) ∧
    (lg = 4 ∨ lg = 5 ∨ lg = 8 → demB l x i = true → demB l y i = true) ∧ (lg = 6 → demB l x i = demB l y i) := by
  unfold mayP
  generalize demB l x i = dx
  generalize demB l y i = dy
  generalize y.testBit (inP l i) = yk
  generalize x.testBit (inP l i) = xk
  generalize decide (kdP l i = 8) = bx
  have h1 : (!(dx && (yk != bx))) = true ↔ (dx = true → yk = bx) := by cases dx <;> cases yk <;> cases bx <;> simp
  have h2 : (!(decide (lg = 7) && dy && (xk != bx))) = true ↔ (lg = 7 → dy = true → xk = bx) := by by_cases h : lg = 7 <;> simp [h] <;> cases dy <;> cases xk <;> cases bx <;> simp
  have h3 : (!((decide (lg = 4) || decide (lg = 5) || decide (lg = 8)) && dx && !dy)) = true ↔ (lg = 4 ∨ lg = 5 ∨ lg = 8 → dx = true → dy = true) := by
    have e : (decide (lg = 4) || decide (lg = 5) || decide (lg = 8)) = decide (lg = 4 ∨ lg = 5 ∨ lg = 8) := by simp [Bool.or_assoc]
    rw [e]
    by_cases h : lg = 4 ∨ lg = 5 ∨ lg = 8 <;> simp [h] <;> cases dx <;> cases dy <;> simp
  have h4 : (!(decide (lg = 6) && (dx != dy))) = true ↔ (lg = 6 → dx = dy) := by by_cases h : lg = 6 <;> simp [h] <;> cases dx <;> cases dy <;> simp
  rw [Bool.and_eq_true, Bool.and_eq_true, Bool.and_eq_true, h1, h2, h3, h4]
theorem parts_two {l : List Fm} {p : Nat → Prop} : (∀ i ∈ modL l l.length, p i) ↔ ∀ i g, l[i]? = some g → (g.kind = 8 ∨ g.kind = 9) → p i := by
  constructor
  · intro h i g hg hk
    obtain ⟨hi, rfl⟩ := List.getElem?_eq_some_iff.1 hg
    exact h i (mem_modL.2 ⟨hi, by rw [kdP_at hi]; exact hk⟩)
  · intro h i hi
    obtain ⟨h1, h2⟩ := mem_modL.1 hi
    rw [kdP_at h1] at h2
    exact h i _ (List.getElem?_eq_getElem h1) h2
theorem mayB_sees (lg : Nat) (l : List Fm) (ws : List Nat) (x y : Nat) : mayB lg l x y = (sceneOf lg l ws).sees x y := by
  have kk : ∀ i, (sceneOf lg l ws).kid i 0 = inP l i := fun i => rfl
  have ah : ∀ x y, (sceneOf lg l ws).ahead x y = true ↔ ∀ i ∈ modL l l.length, demB l x i = true → y.testBit (inP l i) = decide (kdP l i = 8) := by
    intro x y
    rw [ahead_iff, parts_two]
    refine forall_congr' fun i => forall_congr' fun g => ?_
    refine forall_congr' fun hg => ?_
    obtain ⟨hi, hgg⟩ := List.getElem?_eq_some_iff.1 hg
    have hk : kdP l i = g.kind := by rw [kdP_at hi, hgg]
    unfold demB
    rw [hk, kk]
    by_cases h8 : g.kind = 8
    · simp [h8]
    · by_cases h9 : g.kind = 9
      · simp [h9]; cases y.testBit (inP l i) <;> cases x.testBit i <;> simp
      · simp [h8, h9]
  have mo : (sceneOf lg l ws).more x y = true ↔ ∀ i ∈ modL l l.length, demB l x i = true → demB l y i = true := by
    rw [more_iff, parts_two]
    refine forall_congr' fun i => forall_congr' fun g => ?_
    refine forall_congr' fun hg => ?_
    obtain ⟨hi, hgg⟩ := List.getElem?_eq_some_iff.1 hg
    have hk : kdP l i = g.kind := by rw [kdP_at hi, hgg]
    unfold demB
    rw [hk]
    by_cases h8 : g.kind = 8
    · simp [h8]
    · by_cases h9 : g.kind = 9
      · simp [h9]; cases y.testBit i <;> cases x.testBit i <;> simp
      · simp [h8, h9]
  have al : (sceneOf lg l ws).alike x y = true ↔ ∀ i ∈ modL l l.length, demB l x i = demB l y i := by
    rw [alike_iff, parts_two]
    refine forall_congr' fun i => forall_congr' fun g => ?_
    refine forall_congr' fun hg => ?_
    obtain ⟨hi, hgg⟩ := List.getElem?_eq_some_iff.1 hg
    have hk : kdP l i = g.kind := by rw [kdP_at hi, hgg]
    unfold demB
    rw [hk]
    refine forall_congr' fun h => ?_
    generalize decide (g.kind = 8) = b
    cases x.testBit i <;> cases y.testBit i <;> cases b <;> simp
  rw [Bool.eq_iff_iff, sees_iff, ah, ah, mo, al]
  unfold mayB
  rw [Bool.and_eq_true, List.all_eq_true]
  simp only [mayP_iff]
  constructor
  · rintro ⟨h1, h2⟩
    refine ⟨fun i hi => (h1 i hi).1, fun h i hi => (h1 i hi).2.2.1 h, fun h i hi => (h1 i hi).2.2.2 h, fun h i hi => (h1 i hi).2.1 h, fun h => ?_⟩
    simp only [h, ne_eq, not_true_eq_false, decide_false, Bool.false_or, List.any_eq_true] at h2
    obtain ⟨i, hi, hb⟩ := h2
    rw [Bool.eq_false_iff, Ne, al]
    intro hh
    have := hh i hi
    rw [this] at hb; simp at hb
  · rintro ⟨h1, h2, h3, h4, h5⟩
    refine ⟨fun i hi => ⟨h1 i hi, fun h => h4 h i hi, fun h => h2 h i hi, fun h => h3 h i hi⟩, ?_⟩
    by_cases h8 : lg = 8
    · have h5 := h5 h8
      rw [Bool.eq_false_iff, Ne, al] at h5
      simp only [h8, ne_eq, not_true_eq_false, decide_false, Bool.false_or, List.any_eq_true]
      simp only [Classical.not_forall] at h5
      obtain ⟨i, hi, hne⟩ := h5
      refine ⟨i, hi, ?_⟩
      have := h2 (.inr (.inr h8)) i hi
      revert this hne
      cases demB l x i <;> cases demB l y i <;> simp
    · simp [h8]
def x38 : XC := .seq (.reg [⟨some 6,.assign (.const (.bool false)),none⟩]) (.seq (.drawn 1 [⟨some 7,.move (.tmp 0),none⟩,⟨some 8,.load 59 (.tmp 2),none⟩,⟨some 9,.move (.tmp 1),none⟩,⟨some 10,.indexAddr 59 (.tmp 8) (.tmp 9),none⟩,⟨some 11,.load 3 (.tmp 10),none⟩,⟨some 12,.indexAddr 43 (.tmp 7) (.tmp 11),none⟩,⟨some 13,.load 4 (.tmp 12),none⟩,⟨some 14,.load 22 (.tmp 3),none⟩,⟨some 15,.load 59 (.tmp 2),none⟩,⟨some 16,.move (.tmp 1),none⟩,⟨some 17,.indexAddr 59 (.tmp 15) (.tmp 16),none⟩,⟨some 18,.load 3 (.tmp 17),none⟩,⟨some 19,.indexAddr 22 (.tmp 14) (.tmp 18),none⟩,⟨some 20,.fieldAddr 24 (.tmp 19) 0,none⟩,⟨some 21,.load 3 (.tmp 20),none⟩,⟨some 22,.binOp .eql 3 (.tmp 21) (.const (.int .i64 8)) 3,none⟩,⟨some 23,.binOp .eql 4 (.tmp 13) (.tmp 22) 4,none⟩,⟨some 6,.assign (.tmp 23),none⟩]) (.ret))
@[simp] theorem x38_s {C : WC} {e : AE} {s : Store} {K : KS} : type_of% (@X_at C e s K _ _ x38.eq_1) := X_at x38.eq_1
def an38 : Ann := ⟨[], [], []⟩
def cx38 (P : Program) (m : Nat) : WC := ⟨P, m, an38⟩
@[simp] theorem cx38_a {P : Program} {m : Nat} : (cx38 P m).P = P ∧ (cx38 P m).m = m ∧ (cx38 P m).A.clsOf 1 = .draw ∧ (cx38 P m).A.frzOf 1 = [] := ⟨rfl, rfl, rfl, rfl⟩
instance {P : Program} {m f : Nat} [h : EnT P f] : EnT (cx38 P m).P f := h
theorem chk38 : ∀ c, Try.f38.body = some c → chkC Try.f38.ntmps an38 c = true := by intro c h; obtain rfl := Option.some.inj h; decide +kernel
theorem op38 {args : List PV} {v : PV} (h : X (cx38 Try.prog 0) x38 (argsA 0 args) [] (.fin [.tmp 6] fun v1 s1 => deref s1 6 v1 = v)) (hl : args.length ≤ Try.f38.ntmps := by rw [Try.ntmps38]; simp) : CallOK Try.prog 38 args [] v [] :=
  callX (m := 0) (cx38 Try.prog 0) x38 rfl rfl (by kernel_rfl) Try.func38 rfl rfl hl mixed (chk38 _ rfl) (by rw [Try.results38]; exact h)

theorem demands_ref (l : List Fm) (x j : Nat) (hj : j < (modL l l.length).length) : CallOK Try.prog 38 [.list ((bitsL l.length x).map boolRow), .int .i64 (j : Int), .iptr [.list ((modL l l.length).map numRow)], .iptr [.list (l.map frm)]] [] (.bool (demB l x (modL l l.length)[j])) [] := by
  have hm := mem_modL.1 (List.getElem_mem hj)
  generalize hms : modL l l.length = ms at hj hm ⊢
  have hk := kdP_at hm.1
  unfold demB
  rw [hk]
  refine op38 ?_
  (((try simp (implicitDefEqProofs := false) [bitsL_get, hj, hm.1]); (try simp (implicitDefEqProofs := false) (disch := first | assumption | (try simp only [lens]); omega -splitDisjunctions) [bitsL_get, hj, hm.1])); all_goals try (repeat' ((first | ((with_reducible first | refine And.intro ?_ ?_ | refine Exists.intro ?_ ?_); first | omega | (simp <;> omega)) | (with_reducible refine spl (And.intro ?_ ?_) <;> intro _)) <;> ((try simp (implicitDefEqProofs := false) [bitsL_get, hj, hm.1]); (try simp (implicitDefEqProofs := false) (disch := first | assumption | (try simp only [lens]); omega -splitDisjunctions) [bitsL_get, hj, hm.1])))))
/-- how often the second demands what the first does not -/
def all0 (R : List Nat) : Bool := R.all fun x => x.testBit 0
def cntD (l : List Fm) (x y : Nat) (ms : List Nat) : Nat := ms.countP fun i => demB l y i && !demB l x i
theorem cntD_pos {l : List Fm} {x y : Nat} {ms : List Nat} : decide (0 < cntD l x y ms) = ms.any fun i => demB l y i && !demB l x i := by
  rw [Bool.eq_iff_iff, decide_eq_true_iff, List.any_eq_true, cntD, List.countP_pos_iff]
theorem cntD_snoc {l : List Fm} {x y M : Nat} {ms : List Nat} : cntD l x y (ms ++ [M]) = cntD l x y ms + if (demB l y M && !demB l x M) = true then 1 else 0 := by
  rw [cntD, List.countP_append, List.countP_singleton]; rfl
def x39_T1 : XC := .seq (.reg [⟨some 111,.load 3 (.tmp 6),none⟩,⟨some 112,.binOp .neq 3 (.tmp 111) (.const (.int .i64 8)) 3,none⟩,⟨some 113,.move (.tmp 112),none⟩,⟨some 114,.move (.tmp 10),some (some 113,false)⟩,⟨some 115,.binOp .gtr 3 (.tmp 114) (.const (.int .i64 0)) 3,some (some 113,false)⟩,⟨some 116,.pick (.tmp 113) (.const (.bool true)) (.tmp 115),none⟩,⟨some 9,.assign (.tmp 116),none⟩]) (.ret)
def x39_L0 : XC := .seq (.seq (.reg [⟨some 13,.move (.tmp 11),none⟩,⟨some 14,.load 59 (.tmp 2),none⟩,⟨some 15,.call ⟨.builtin .len,#[.tmp 14],#[59]⟩,none⟩,⟨some 16,.binOp .lss 3 (.tmp 13) (.tmp 15) 3,none⟩]) (.cond (.tmp 16) (.skip) (.exit 0))) (.seq (.block 1 (.seq (.drawn 5 [⟨some 19,.load 22 (.tmp 3),none⟩,⟨some 20,.load 59 (.tmp 2),none⟩,⟨some 21,.move (.tmp 11),none⟩,⟨some 22,.indexAddr 59 (.tmp 20) (.tmp 21),none⟩,⟨some 23,.load 3 (.tmp 22),none⟩,⟨some 24,.indexAddr 22 (.tmp 19) (.tmp 23),none⟩,⟨some 25,.fieldAddr 24 (.tmp 24) 0,none⟩,⟨some 26,.load 3 (.tmp 25),none⟩,⟨some 27,.binOp .eql 3 (.tmp 26) (.const (.int .i64 8)) 3,none⟩,⟨some 12,.assign (.tmp 27),none⟩]) (.seq (.seq (.reg [⟨some 28,.load 72 (.tmp 4),none⟩,⟨some 29,.move (.tmp 0),none⟩,⟨some 30,.move (.tmp 11),none⟩,⟨some 31,.call ⟨.value (.tmp 28),#[.tmp 29,.tmp 30],#[43,3]⟩,none⟩,⟨some 32,.move (.tmp 31),none⟩,⟨some 33,.move (.tmp 1),some (some 32,true)⟩,⟨some 34,.load 59 (.tmp 5),some (some 32,true)⟩,⟨some 35,.move (.tmp 11),some (some 32,true)⟩,⟨some 36,.indexAddr 59 (.tmp 34) (.tmp 35),some (some 32,true)⟩,⟨some 37,.load 3 (.tmp 36),some (some 32,true)⟩,⟨some 38,.indexAddr 43 (.tmp 33) (.tmp 37),some (some 32,true)⟩,⟨some 39,.load 4 (.tmp 38),some (some 32,true)⟩,⟨some 40,.move (.tmp 12),some (some 32,true)⟩,⟨some 41,.binOp .neq 4 (.tmp 39) (.tmp 40) 4,some (some 32,true)⟩,⟨some 42,.pick (.tmp 32) (.tmp 41) (.const (.bool false)),none⟩]) (.cond (.tmp 42) (.seq (.reg [⟨some 9,.assign (.const (.bool false)),none⟩]) (.ret)) (.skip))) (.seq (.seq (.reg [⟨some 43,.load 3 (.tmp 6),none⟩,⟨some 44,.binOp .eql 3 (.tmp 43) (.const (.int .i64 7)) 3,none⟩,⟨some 45,.move (.tmp 44),none⟩,⟨some 46,.load 72 (.tmp 4),some (some 45,true)⟩,⟨some 47,.move (.tmp 1),some (some 45,true)⟩,⟨some 48,.move (.tmp 11),some (some 45,true)⟩,⟨some 49,.call ⟨.value (.tmp 46),#[.tmp 47,.tmp 48],#[43,3]⟩,some (some 45,true)⟩,⟨some 50,.pick (.tmp 45) (.tmp 49) (.const (.bool false)),none⟩,⟨some 51,.move (.tmp 50),none⟩,⟨some 52,.move (.tmp 0),some (some 51,true)⟩,⟨some 53,.load 59 (.tmp 5),some (some 51,true)⟩,⟨some 54,.move (.tmp 11),some (some 51,true)⟩,⟨some 55,.indexAddr 59 (.tmp 53) (.tmp 54),some (some 51,true)⟩,⟨some 56,.load 3 (.tmp 55),some (some 51,true)⟩,⟨some 57,.indexAddr 43 (.tmp 52) (.tmp 56),some (some 51,true)⟩,⟨some 58,.load 4 (.tmp 57),some (some 51,true)⟩,⟨some 59,.move (.tmp 12),some (some 51,true)⟩,⟨some 60,.binOp .neq 4 (.tmp 58) (.tmp 59) 4,some (some 51,true)⟩,⟨some 61,.pick (.tmp 51) (.tmp 60) (.const (.bool false)),none⟩]) (.cond (.tmp 61) (.seq (.reg [⟨some 9,.assign (.const (.bool false)),none⟩]) (.ret)) (.skip))) (.seq (.seq (.reg [⟨some 62,.load 3 (.tmp 6),none⟩,⟨some 63,.binOp .eql 3 (.tmp 62) (.const (.int .i64 4)) 3,none⟩,⟨some 64,.move (.tmp 63),none⟩,⟨some 65,.load 3 (.tmp 6),some (some 64,false)⟩,⟨some 66,.binOp .eql 3 (.tmp 65) (.const (.int .i64 5)) 3,some (some 64,false)⟩,⟨some 67,.pick (.tmp 64) (.const (.bool true)) (.tmp 66),none⟩,⟨some 68,.move (.tmp 67),none⟩,⟨some 69,.load 3 (.tmp 6),some (some 68,false)⟩,⟨some 70,.binOp .eql 3 (.tmp 69) (.const (.int .i64 8)) 3,some (some 68,false)⟩,⟨some 71,.pick (.tmp 68) (.const (.bool true)) (.tmp 70),none⟩,⟨some 72,.move (.tmp 71),none⟩,⟨some 73,.load 72 (.tmp 4),some (some 72,true)⟩,⟨some 74,.move (.tmp 0),some (some 72,true)⟩,⟨some 75,.move (.tmp 11),some (some 72,true)⟩,⟨some 76,.call ⟨.value (.tmp 73),#[.tmp 74,.tmp 75],#[43,3]⟩,some (some 72,true)⟩,⟨some 77,.pick (.tmp 72) (.tmp 76) (.const (.bool false)),none⟩,⟨some 78,.move (.tmp 77),none⟩,⟨some 79,.load 72 (.tmp 4),some (some 78,true)⟩,⟨some 80,.move (.tmp 1),some (some 78,true)⟩,⟨some 81,.move (.tmp 11),some (some 78,true)⟩,⟨some 82,.call ⟨.value (.tmp 79),#[.tmp 80,.tmp 81],#[43,3]⟩,some (some 78,true)⟩,⟨some 83,.unOp .not 4 (.tmp 82),some (some 78,true)⟩,⟨some 84,.pick (.tmp 78) (.tmp 83) (.const (.bool false)),none⟩]) (.cond (.tmp 84) (.seq (.reg [⟨some 9,.assign (.const (.bool false)),none⟩]) (.ret)) (.skip))) (.seq (.seq (.drawn 12 [⟨some 85,.load 3 (.tmp 6),none⟩,⟨some 86,.binOp .eql 3 (.tmp 85) (.const (.int .i64 6)) 3,none⟩,⟨some 87,.move (.tmp 86),none⟩,⟨some 88,.load 72 (.tmp 4),some (some 87,true)⟩,⟨some 89,.move (.tmp 0),some (some 87,true)⟩,⟨some 90,.move (.tmp 11),some (some 87,true)⟩,⟨some 91,.call ⟨.value (.tmp 88),#[.tmp 89,.tmp 90],#[43,3]⟩,some (some 87,true)⟩,⟨some 92,.load 72 (.tmp 4),some (some 87,true)⟩,⟨some 93,.move (.tmp 1),some (some 87,true)⟩,⟨some 94,.move (.tmp 11),some (some 87,true)⟩,⟨some 95,.call ⟨.value (.tmp 92),#[.tmp 93,.tmp 94],#[43,3]⟩,some (some 87,true)⟩,⟨some 96,.binOp .neq 4 (.tmp 91) (.tmp 95) 4,some (some 87,true)⟩,⟨some 97,.pick (.tmp 87) (.tmp 96) (.const (.bool false)),none⟩]) (.cond (.tmp 97) (.seq (.reg [⟨some 9,.assign (.const (.bool false)),none⟩]) (.ret)) (.skip))) (.seq (.reg [⟨some 98,.load 72 (.tmp 4),none⟩,⟨some 99,.move (.tmp 1),none⟩,⟨some 100,.move (.tmp 11),none⟩,⟨some 101,.call ⟨.value (.tmp 98),#[.tmp 99,.tmp 100],#[43,3]⟩,none⟩,⟨some 102,.move (.tmp 101),none⟩,⟨some 103,.load 72 (.tmp 4),some (some 102,true)⟩,⟨some 104,.move (.tmp 0),some (some 102,true)⟩,⟨some 105,.move (.tmp 11),some (some 102,true)⟩,⟨some 106,.call ⟨.value (.tmp 103),#[.tmp 104,.tmp 105],#[43,3]⟩,some (some 102,true)⟩,⟨some 107,.unOp .not 4 (.tmp 106),some (some 102,true)⟩,⟨some 108,.pick (.tmp 102) (.tmp 107) (.const (.bool false)),none⟩]) (.cond (.tmp 108) (.reg [⟨some 109,.move (.tmp 10),none⟩,⟨some 110,.binOp .add 3 (.tmp 109) (.const (.int .i64 1)) 3,none⟩,⟨some 10,.assign (.tmp 110),none⟩]) (.skip))))))))) (.reg [⟨some 17,.move (.tmp 11),none⟩,⟨some 18,.binOp .add 3 (.tmp 17) (.const (.int .i64 1)) 3,none⟩,⟨some 11,.assign (.tmp 18),none⟩]))
def x39 : XC := .seq (.reg [⟨some 9,.assign (.const (.bool false)),none⟩]) (.seq (.reg [⟨some 10,.assign (.const (.int .i64 0)),none⟩]) (.seq (.seq (.reg [⟨some 11,.assign (.const (.int .i64 0)),none⟩]) (.bloop 0 x39_L0)) (x39_T1)))
@[simp] theorem x39_s {C : WC} {e : AE} {s : Store} {K : KS} : type_of% (@X_at C e s K _ _ x39_T1.eq_1) ∧ type_of% (@X_at C e s K _ _ x39_L0.eq_1) ∧ type_of% (@X_at C e s K _ _ x39.eq_1) := ⟨X_at x39_T1.eq_1, X_at x39_L0.eq_1, X_at x39.eq_1⟩
def an39 : Ann := ⟨[(12, .mix 10)], [(0, [], [0, 1, 2, 3, 4, 5, 6, 10, 11], [6, 9, 10])], []⟩
def cx39 (P : Program) (m : Nat) : WC := ⟨P, m, an39⟩
@[simp] theorem cx39_a {P : Program} {m : Nat} : (cx39 P m).P = P ∧ (cx39 P m).m = m ∧ (cx39 P m).A.clsOf 5 = .draw ∧ (cx39 P m).A.clsOf 12 = .mix 10 ∧ (cx39 P m).A.frzOf 5 = [] ∧ (cx39 P m).A.frzOf 12 = [] ∧ (cx39 P m).A.loopOf 0 = ([], [0, 1, 2, 3, 4, 5, 6, 10, 11], [6, 9, 10]) := ⟨rfl, rfl, rfl, rfl, rfl, rfl, rfl⟩
instance {P : Program} {m f : Nat} [h : EnT P f] : EnT (cx39 P m).P f := h
theorem chk39 : ∀ c, Try.f39.body = some c → chkC Try.f39.ntmps an39 c = true := by intro c h; obtain rfl := Option.some.inj h; decide +kernel
theorem op39 {args : List PV} {v : PV} (h : X (cx39 Try.prog 0) x39 (argsA 0 args) [] (.fin [.tmp 9] fun v1 s1 => deref s1 6 v1 = v)) (hl : args.length ≤ Try.f39.ntmps := by rw [Try.ntmps39]; simp) : CallOK Try.prog 39 args [] v [] :=
  callX (m := 0) (cx39 Try.prog 0) x39 rfl rfl (by kernel_rfl) Try.func39 rfl rfl hl mixed (chk39 _ rfl) (by rw [Try.results39]; exact h)

theorem may_ref (lg : Nat) (l : List Fm) (x y : Nat) (hi : ∀ i ∈ modL l l.length, inP l i < l.length) :
    CallOK Try.prog 39 [.list ((bitsL l.length x).map boolRow), .list ((bitsL l.length y).map boolRow), .iptr [.list ((modL l l.length).map numRow)], .iptr [.list (l.map frm)],
      .iptr [.fn (.func 38) [] [.iptr [.list ((modL l l.length).map numRow)], .iptr [.list (l.map frm)]]], .iptr [.list ((modL l l.length).map (inRow l))], .iptr [.int .i64 (lg : Int)]] [] (.bool (mayB lg l x y)) [] := by
  have hdx := demands_ref l x
  have hdy := demands_ref l y
  have e4 : decide (lg = 4) = decide ((lg : Int) = 4) := by rw [decide_eq_decide]; omega
  have e5 : decide (lg = 5) = decide ((lg : Int) = 5) := by rw [decide_eq_decide]; omega
  have e6 : decide (lg = 6) = decide ((lg : Int) = 6) := by rw [decide_eq_decide]; omega
  have e7 : decide (lg = 7) = decide ((lg : Int) = 7) := by rw [decide_eq_decide]; omega
  have e8 : decide (lg = 8) = decide ((lg : Int) = 8) := by rw [decide_eq_decide]; omega
  have e8' : decide (lg ≠ 8) = !decide ((lg : Int) = 8) := by rw [← e8]; simp
  unfold mayB
  rw [← cntD_pos, e8']
  have hmem : ∀ j (h : j < (modL l l.length).length), (modL l l.length)[j] < l.length ∧ inP l (modL l l.length)[j] < l.length := by
    intro j h
    exact ⟨(mem_modL.1 (List.getElem_mem h)).1, hi _ (List.getElem_mem h)⟩
  generalize hms : modL l l.length = ms at hdx hdy hmem ⊢
  generalize hAL : ms.all (mayP lg l x y) = AL
  refine op39 ?_
  (((try simp (implicitDefEqProofs := false)); (try simp (implicitDefEqProofs := false) (disch := first | assumption | (try simp only [lens]); omega -splitDisjunctions))); all_goals try (repeat' ((first | ((with_reducible first | refine And.intro ?_ ?_ | refine Exists.intro ?_ ?_); first | omega | (simp <;> omega)) | (with_reducible refine spl (And.intro ?_ ?_) <;> intro _)) <;> ((try simp (implicitDefEqProofs := false)); (try simp (implicitDefEqProofs := false) (disch := first | assumption | (try simp only [lens]); omega -splitDisjunctions))))))
  refine W_of fun Q hQ => ?_
  have main : ∀ n i, i + n = ms.length → AL = ((ms.drop i).all (mayP lg l x y)) → Q [(0, .list ((bitsL l.length x).map boolRow)), (1, .list ((bitsL l.length y).map boolRow)), (2, .iptr [.list (ms.map numRow)]), (3, .iptr [.list (l.map frm)]),
      (4, .iptr [.fn (.func 38) [] [.iptr [.list (ms.map numRow)], .iptr [.list (l.map frm)]]]), (5, .iptr [.list (ms.map (inRow l))]), (6, .iptr [.int .i64 (lg : Int)]), (10, .int .i64 ((cntD l x y (ms.take i) : Nat) : Int)), (11, .int .i64 (i : Int))] [] := by
    intro n
    induction n with
    | zero =>
      intro i hi ha
      rw [List.drop_of_length_le (by omega), List.all_nil] at ha
      rw [List.take_of_length_le (by omega)]
      apply hQ
      (((try simp (implicitDefEqProofs := false)); (try simp (implicitDefEqProofs := false) (disch := first | assumption | (try simp only [lens]); omega -splitDisjunctions))); all_goals try (repeat' ((first | ((with_reducible first | refine And.intro ?_ ?_ | refine Exists.intro ?_ ?_); first | omega | (simp <;> omega)) | (with_reducible refine spl (And.intro ?_ ?_) <;> intro _)) <;> ((try simp (implicitDefEqProofs := false)); (try simp (implicitDefEqProofs := false) (disch := first | assumption | (try simp only [lens]); omega -splitDisjunctions))))))
      all_goals simp_all
    | succ n ih =>
      intro i hin ha
      have hlt : i < ms.length := by omega
      rw [List.drop_eq_getElem_cons hlt, List.all_cons] at ha
      have ih := ih (i + 1) (by omega)
      rw [take_snoc hlt, cntD_snoc] at ih
      obtain ⟨m1, m2⟩ := hmem i hlt
      have hdx := hdx i hlt
      have hdy := hdy i hlt
      have hcl : cntD l x y (ms.take i) ≤ i := Nat.le_trans List.countP_le_length (by simp; omega)
      generalize cntD l x y (ms.take i) = cnt at ih hcl ⊢
      apply hQ
      clear hQ
      have hk : l[ms[i]].kind = kdP l ms[i] := by rw [kdP_at m1]
      have hP : mayP lg l x y ms[i] = mayP lg l x y ms[i] := rfl
      conv at hP => rhs; unfold mayP
      rw [e4, e5, e6, e7, e8] at hP
      rw [hP] at ha
      clear hP
      generalize hM : ms[i] = M at *
      generalize (ms.drop (i + 1)).all (mayP lg l x y) = rest at ha ih
      generalize hyk : y.testBit (inP l M) = yk at *
      generalize hxk : x.testBit (inP l M) = xk at *
      generalize hbx : decide (kdP l M = 8) = bx at *
      generalize demB l x M = dx at *
      generalize demB l y M = dy at *
      (((try simp (implicitDefEqProofs := false) [bitsL_get, m1, m2, hk, hM, hyk, hxk, hbx, inRow_eq]); (try simp (implicitDefEqProofs := false) (disch := first | assumption | (try simp only [lens]); omega -splitDisjunctions) [bitsL_get, m1, m2, hk, hM, hyk, hxk, hbx, inRow_eq])); all_goals try (repeat' ((first | ((with_reducible first | refine And.intro ?_ ?_ | refine Exists.intro ?_ ?_); first | omega | (simp <;> omega)) | (with_reducible refine spl (And.intro ?_ ?_) <;> intro _) | (refine CL.clo (hdx) ?_) | (refine CM.clo (hdx) ?_) | (refine CD.clo (hdx) ?_) | (refine CL.clo (hdy) ?_) | (refine CM.clo (hdy) ?_) | (refine CD.clo (hdy) ?_)) <;> ((try simp (implicitDefEqProofs := false) [bitsL_get, m1, m2, hk, hM, hyk, hxk, hbx, inRow_eq]); (try simp (implicitDefEqProofs := false) (disch := first | assumption | (try simp only [lens]); omega -splitDisjunctions) [bitsL_get, m1, m2, hk, hM, hyk, hxk, hbx, inRow_eq])))))
      all_goals first | (simp_all; done) | (refine at2 (ih (by simp_all)) ?_ rfl; simp_all; done)
  refine at2 (main _ 0 (Nat.zero_add _) hAL.symm) ?_ ?_ <;> simp [cntD]
end Go.Proofs.Ytliockncjdeloaa
