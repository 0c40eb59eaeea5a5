/-
  sequentref: typesOf.
-/
import Derived.Test.YtliockncjdeloaaQRE
import Derived.Test.YtliockncjdeloaaQPa
namespace Go.Proofs.Ytliockncjdeloaa
open Go Go.Pv
set_option linter.unusedVariables false
set_option linter.unusedSimpArgs false
set_option maxRecDepth 100000
set_option maxHeartbeats 4000000

/-- truth values, told up to a place -/
def partB (p : Nat → Bool) (n w : Nat) : List Bool := (List.range n).map fun x => if x < w then p x else false
@[simp] theorem partB_length {p : Nat → Bool} {n w : Nat} : (partB p n w).length = n := by simp [partB]
theorem partB_zero {p : Nat → Bool} {n : Nat} : partB p n 0 = List.replicate n false := by simp [partB, List.map_const']
theorem partB_all {p : Nat → Bool} {n : Nat} : partB p n n = (List.range n).map p := by
  unfold partB
  apply List.map_congr_left
  intro x hx
  rw [List.mem_range] at hx
  rw [if_pos hx]
theorem partB_succ {p : Nat → Bool} {n w : Nat} (hw : w < n) : partB p n (w + 1) = (partB p n w).set w (p w) := by
  apply List.ext_getElem (by simp)
  intro x h1 h2
  rw [List.getElem_set]
  simp only [partB, List.getElem_map, List.getElem_range]
  by_cases e : w = x
  · subst e; rw [if_pos rfl, if_pos (by omega)]
  · rw [if_neg e]
    by_cases h : x < w
    · rw [if_pos h, if_pos (by omega)]
    · rw [if_neg h, if_neg (by omega)]
/-- a set's parts, each told -/
def bitsL (n k : Nat) : List Bool := (List.range n).map k.testBit
def vecR (n k : Nat) : List PV := [.list ((bitsL n k).map boolRow)]
instance (n : Nat) : FlatRow (vecR n) := ⟨fun x => by simp [vecR, flatV]⟩
@[simp] theorem bitsL_length {n k : Nat} : (bitsL n k).length = n := by simp [bitsL]
theorem bitsL_get {n k i : Nat} (h : i < (bitsL n k).length) : (bitsL n k)[i] = k.testBit i := by simp [bitsL]
noncomputable def whereI (l : List Fm) (f : Fm) : Int := indexF (fun g => sameB g f) l
theorem whereI_eq {l : List Fm} {k : Fm} (h : k ∈ l) : whereI l k = (idxF l k : Int) ∧ idxF l k < l.length := by
  have e : (fun g => sameB g k) = sameB k := by
    funext g
    rw [Bool.eq_iff_iff, sameB_iff, sameB_iff]; exact eq_comm
  obtain ⟨i, hi, h1, h2⟩ := indexF_mem h
  unfold whereI idxF
  rw [e, h1]
  exact ⟨rfl, hi⟩
theorem kid_idx {lg : Nat} {l : List Fm} {ws : List Nat} {i j : Nat} {g k : Fm} (hg : l[i]? = some g) (hk : g.kids[j]? = some k) : (sceneOf lg l ws).kid i j = idxF l k := by
  simp [Sc.kid, sceneOf, kidsL, hg, hk]
def x59_L0 : XC := .seq (.seq (.reg [⟨some 5,.move (.tmp 4),none⟩,⟨some 6,.load 22 (.tmp 1),none⟩,⟨some 7,.call ⟨.builtin .len,#[.tmp 6],#[22]⟩,none⟩,⟨some 8,.binOp .lss 3 (.tmp 5) (.tmp 7) 3,none⟩]) (.cond (.tmp 8) (.skip) (.exit 0))) (.seq (.block 1 (.seq (.drawn 4 [⟨some 11,.load 22 (.tmp 1),none⟩,⟨some 12,.move (.tmp 4),none⟩,⟨some 13,.indexAddr 22 (.tmp 11) (.tmp 12),none⟩,⟨some 14,.load 24 (.tmp 13),none⟩,⟨some 15,.load 24 (.tmp 2),none⟩,⟨some 16,.call ⟨.value (.func 14),#[.tmp 14,.tmp 15],#[24,24]⟩,none⟩]) (.cond (.tmp 16) (.seq (.reg [⟨some 17,.move (.tmp 4),none⟩,⟨some 3,.assign (.tmp 17),none⟩]) (.ret)) (.skip)))) (.reg [⟨some 9,.move (.tmp 4),none⟩,⟨some 10,.binOp .add 3 (.tmp 9) (.const (.int .i64 1)) 3,none⟩,⟨some 4,.assign (.tmp 10),none⟩]))
def x59 : XC := .seq (.reg [⟨some 2,.box 24 (.tmp 0),none⟩,⟨some 3,.assign (.const (.int .i64 0)),none⟩]) (.seq (.seq (.reg [⟨some 4,.assign (.const (.int .i64 0)),none⟩]) (.bloop 0 x59_L0)) (.seq (.reg [⟨some 3,.assign (.const (.int .i64 (-1))),none⟩]) (.ret)))
@[simp] theorem x59_s {C : WC} {e : AE} {s : Store} {K : KS} : type_of% (@X_at C e s K _ _ x59_L0.eq_1) ∧ type_of% (@X_at C e s K _ _ x59.eq_1) := ⟨X_at x59_L0.eq_1, X_at x59.eq_1⟩
def an59 : Ann := ⟨[], [(0, [], [1, 2, 4], [3])], []⟩
def cx59 (P : Program) (m : Nat) : WC := ⟨P, m, an59⟩
@[simp] theorem cx59_a {P : Program} {m : Nat} : (cx59 P m).P = P ∧ (cx59 P m).m = m ∧ (cx59 P m).A.clsOf 4 = .draw ∧ (cx59 P m).A.frzOf 4 = [] ∧ (cx59 P m).A.loopOf 0 = ([], [1, 2, 4], [3]) := ⟨rfl, rfl, rfl, rfl, rfl⟩
instance {P : Program} {m f : Nat} [h : EnT P f] : EnT (cx59 P m).P f := h
theorem chk59 : ∀ c, Try.f59.body = some c → chkC Try.f59.ntmps an59 c = true := by intro c h; obtain rfl := Option.some.inj h; decide +kernel
theorem op59 {args : List PV} {v : PV} (h : X (cx59 Try.prog 0) x59 (argsA 0 args) [] (.fin [.tmp 3] fun v1 s1 => deref s1 6 v1 = v)) (hl : args.length ≤ Try.f59.ntmps := by rw [Try.ntmps59]; simp) : CallOK Try.prog 59 args [] v [] :=
  callX (m := 0) (cx59 Try.prog 0) x59 rfl rfl (by kernel_rfl) Try.func59 rfl rfl hl mixed (chk59 _ rfl) (by rw [Try.results59]; exact h)

theorem where1_ref (l : List Fm) (f : Fm) : CallOK Try.prog 59 [.agg (frm f), .iptr [.list (l.map frm)]] [] (.int .i64 (whereI l f)) [] := by
  refine op59 ?_
  (((try simp (implicitDefEqProofs := false)); (try simp (implicitDefEqProofs := false) (disch := first | assumption | (try simp only [lens]); omega -splitDisjunctions))); all_goals try (repeat' ((first | ((with_reducible first | refine And.intro ?_ ?_ | refine Exists.intro ?_ ?_); first | omega | (simp <;> omega)) | (with_reducible refine spl (And.intro ?_ ?_) <;> intro _)) <;> ((try simp (implicitDefEqProofs := false)); (try simp (implicitDefEqProofs := false) (disch := first | assumption | (try simp only [lens]); omega -splitDisjunctions))))))
  refine W_of fun Q hQ => ?_
  have main : ∀ n i, i + n = l.length → (∀ j (h : j < l.length), j < i → sameB l[j] f = false) → Q [(1, .iptr [.list (l.map frm)]), (2, .ptr 0 0 0), (4, .int .i64 (i : Int))] [.rows 3 [frm f]] := by
    intro n
    induction n with
    | zero =>
      intro i hi hl
      have hno : whereI l f = -1 := by
        unfold whereI indexF
        rw [List.findIdx?_eq_none_iff.2]
        intro x hx
        obtain ⟨j, hj, rfl⟩ := List.mem_iff_getElem.1 hx
        exact hl j hj (by omega)
      apply hQ
      (((try simp (implicitDefEqProofs := false)); (try simp (implicitDefEqProofs := false) (disch := first | assumption | (try simp only [lens]); omega -splitDisjunctions))); all_goals try (repeat' ((first | ((with_reducible first | refine And.intro ?_ ?_ | refine Exists.intro ?_ ?_); first | omega | (simp <;> omega)) | (with_reducible refine spl (And.intro ?_ ?_) <;> intro _)) <;> ((try simp (implicitDefEqProofs := false)); (try simp (implicitDefEqProofs := false) (disch := first | assumption | (try simp only [lens]); omega -splitDisjunctions))))))
      all_goals simp [hno]
    | succ n ih =>
      intro i hi hl
      have hlt : i < l.length := by omega
      by_cases hb : sameB l[i] f = true
      · have hyes : whereI l f = i := indexF_at hlt hb (fun j hj => hl j (by omega) hj)
        apply hQ
        (((try simp (implicitDefEqProofs := false) [hb]); (try simp (implicitDefEqProofs := false) (disch := first | assumption | (try simp only [lens]); omega -splitDisjunctions) [hb])); all_goals try (repeat' ((first | ((with_reducible first | refine And.intro ?_ ?_ | refine Exists.intro ?_ ?_); first | omega | (simp <;> omega)) | (with_reducible refine spl (And.intro ?_ ?_) <;> intro _) | (refine CL.clo (Same_ref _ _) ?_) | (refine CM.clo (Same_ref _ _) ?_) | (refine CD.clo (Same_ref _ _) ?_)) <;> ((try simp (implicitDefEqProofs := false) [hb]); (try simp (implicitDefEqProofs := false) (disch := first | assumption | (try simp only [lens]); omega -splitDisjunctions) [hb])))))
        all_goals simp [hyes]
      · have hb : sameB l[i] f = false := by simpa using hb
        have ih := ih (i + 1) (by omega) (fun j hj hji => by
          by_cases e : j = i
          · subst e; exact hb
          · exact hl j hj (by omega))
        apply hQ
        (((try simp (implicitDefEqProofs := false) [hb]); (try simp (implicitDefEqProofs := false) (disch := first | assumption | (try simp only [lens]); omega -splitDisjunctions) [hb])); all_goals try (repeat' ((first | ((with_reducible first | refine And.intro ?_ ?_ | refine Exists.intro ?_ ?_); first | omega | (simp <;> omega)) | (with_reducible refine spl (And.intro ?_ ?_) <;> intro _) | (refine CL.clo (Same_ref _ _) ?_) | (refine CM.clo (Same_ref _ _) ?_) | (refine CD.clo (Same_ref _ _) ?_)) <;> ((try simp (implicitDefEqProofs := false) [hb]); (try simp (implicitDefEqProofs := false) (disch := first | assumption | (try simp only [lens]); omega -splitDisjunctions) [hb])))))
        all_goals simpa using ih
  refine at2 (main _ 0 (Nat.zero_add _) (fun j h hj => by omega)) ?_ ?_ <;> simp
theorem shr_bit (k i : Nat) : decide ((k >>> i) % 2 = 1) = k.testBit i := by
  rw [Nat.shiftRight_eq_div_pow, Nat.testBit_eq_decide_div_mod_eq]
theorem shr_tmod (k i : Nat) (hk : k < 1048576) (hi : i ≤ 20) : decide ((shrI .i64 (k : Int) (i : Int)).tmod 2 = 1) = k.testBit i := by
  rw [shr_nat k i hk, Int.tmod_eq_emod_of_nonneg (Int.natCast_nonneg _), ← shr_bit, Nat.shiftRight_eq_div_pow]
  apply decide_eq_decide.2
  generalize k / 2 ^ i = x
  omega
def x36_T7 : XC := .seq (.reg [⟨some 196,.move (.tmp 5),none⟩,⟨some 4,.assign (.tmp 196),none⟩]) (.ret)
def x36_T6 : XC := .seq (.reg [⟨some 191,.move (.tmp 11),none⟩]) (.cond (.tmp 191) (.reg [⟨some 192,.move (.tmp 5),none⟩,⟨some 193,.move (.tmp 9),none⟩,⟨some 194,.buildSlice 69 1 #[(0,.tmp 193)],none⟩,⟨some 195,.call ⟨.builtin .append,#[.tmp 192,.tmp 194],#[69,69]⟩,none⟩,⟨some 5,.assign (.tmp 195),none⟩]) (.skip))
def x36_T5 : XC := .seq (.reg [⟨some 88,.fieldAddr 24 (.tmp 13) 0,none⟩,⟨some 89,.load 3 (.tmp 88),none⟩]) (.block 8 (.seq (.reg [⟨some 91,.binOp .eql 3 (.tmp 89) (.const (.int .i64 2)) 3,none⟩,⟨some 90,.assign (.tmp 91),none⟩]) (.cond (.tmp 90) (.reg [⟨some 92,.move (.tmp 9),none⟩,⟨some 93,.move (.tmp 12),none⟩,⟨some 94,.indexAddr 43 (.tmp 92) (.tmp 93),none⟩,⟨some 95,.load 4 (.tmp 94),none⟩,⟨some 11,.assign (.tmp 95),none⟩]) (.seq (.reg [⟨some 97,.binOp .eql 3 (.tmp 89) (.const (.int .i64 3)) 3,none⟩,⟨some 96,.assign (.tmp 97),none⟩]) (.cond (.tmp 96) (.reg [⟨some 98,.move (.tmp 9),none⟩,⟨some 99,.move (.tmp 12),none⟩,⟨some 100,.indexAddr 43 (.tmp 98) (.tmp 99),none⟩,⟨some 101,.load 4 (.tmp 100),none⟩,⟨some 102,.unOp .not 4 (.tmp 101),none⟩,⟨some 11,.assign (.tmp 102),none⟩]) (.seq (.reg [⟨some 104,.binOp .eql 3 (.tmp 89) (.const (.int .i64 4)) 3,none⟩,⟨some 103,.assign (.tmp 104),none⟩]) (.cond (.tmp 103) (.drawn 28 [⟨some 105,.move (.tmp 9),none⟩,⟨some 106,.move (.tmp 12),none⟩,⟨some 107,.indexAddr 43 (.tmp 105) (.tmp 106),none⟩,⟨some 108,.load 4 (.tmp 107),none⟩,⟨some 109,.move (.tmp 14),none⟩,⟨some 110,.indexAddr 43 (.tmp 109) (.const (.int .i64 0)),none⟩,⟨some 111,.load 4 (.tmp 110),none⟩,⟨some 112,.binOp .neq 4 (.tmp 108) (.tmp 111) 4,none⟩,⟨some 11,.assign (.tmp 112),none⟩]) (.seq (.reg [⟨some 114,.binOp .eql 3 (.tmp 89) (.const (.int .i64 5)) 3,none⟩,⟨some 113,.assign (.tmp 114),none⟩]) (.cond (.tmp 113) (.drawn 30 [⟨some 115,.move (.tmp 9),none⟩,⟨some 116,.move (.tmp 12),none⟩,⟨some 117,.indexAddr 43 (.tmp 115) (.tmp 116),none⟩,⟨some 118,.load 4 (.tmp 117),none⟩,⟨some 119,.move (.tmp 14),none⟩,⟨some 120,.indexAddr 43 (.tmp 119) (.const (.int .i64 0)),none⟩,⟨some 121,.load 4 (.tmp 120),none⟩,⟨some 122,.move (.tmp 121),none⟩,⟨some 123,.move (.tmp 14),some (some 122,true)⟩,⟨some 124,.indexAddr 43 (.tmp 123) (.const (.int .i64 1)),some (some 122,true)⟩,⟨some 125,.load 4 (.tmp 124),some (some 122,true)⟩,⟨some 126,.pick (.tmp 122) (.tmp 125) (.const (.bool false)),none⟩,⟨some 127,.binOp .eql 4 (.tmp 118) (.tmp 126) 4,none⟩,⟨some 11,.assign (.tmp 127),none⟩]) (.seq (.reg [⟨some 129,.binOp .eql 3 (.tmp 89) (.const (.int .i64 6)) 3,none⟩,⟨some 128,.assign (.tmp 129),none⟩]) (.cond (.tmp 128) (.drawn 32 [⟨some 130,.move (.tmp 9),none⟩,⟨some 131,.move (.tmp 12),none⟩,⟨some 132,.indexAddr 43 (.tmp 130) (.tmp 131),none⟩,⟨some 133,.load 4 (.tmp 132),none⟩,⟨some 134,.move (.tmp 14),none⟩,⟨some 135,.indexAddr 43 (.tmp 134) (.const (.int .i64 0)),none⟩,⟨some 136,.load 4 (.tmp 135),none⟩,⟨some 137,.move (.tmp 136),none⟩,⟨some 138,.move (.tmp 14),some (some 137,false)⟩,⟨some 139,.indexAddr 43 (.tmp 138) (.const (.int .i64 1)),some (some 137,false)⟩,⟨some 140,.load 4 (.tmp 139),some (some 137,false)⟩,⟨some 141,.pick (.tmp 137) (.const (.bool true)) (.tmp 140),none⟩,⟨some 142,.binOp .eql 4 (.tmp 133) (.tmp 141) 4,none⟩,⟨some 11,.assign (.tmp 142),none⟩]) (.seq (.reg [⟨some 144,.binOp .eql 3 (.tmp 89) (.const (.int .i64 7)) 3,none⟩,⟨some 143,.assign (.tmp 144),none⟩]) (.cond (.tmp 143) (.drawn 34 [⟨some 145,.move (.tmp 9),none⟩,⟨some 146,.move (.tmp 12),none⟩,⟨some 147,.indexAddr 43 (.tmp 145) (.tmp 146),none⟩,⟨some 148,.load 4 (.tmp 147),none⟩,⟨some 149,.move (.tmp 14),none⟩,⟨some 150,.indexAddr 43 (.tmp 149) (.const (.int .i64 0)),none⟩,⟨some 151,.load 4 (.tmp 150),none⟩,⟨some 152,.unOp .not 4 (.tmp 151),none⟩,⟨some 153,.move (.tmp 152),none⟩,⟨some 154,.move (.tmp 14),some (some 153,false)⟩,⟨some 155,.indexAddr 43 (.tmp 154) (.const (.int .i64 1)),some (some 153,false)⟩,⟨some 156,.load 4 (.tmp 155),some (some 153,false)⟩,⟨some 157,.pick (.tmp 153) (.const (.bool true)) (.tmp 156),none⟩,⟨some 158,.binOp .eql 4 (.tmp 148) (.tmp 157) 4,none⟩,⟨some 11,.assign (.tmp 158),none⟩]) (.seq (.reg [⟨some 160,.binOp .eql 3 (.tmp 89) (.const (.int .i64 8)) 3,none⟩,⟨some 159,.assign (.tmp 160),none⟩]) (.cond (.tmp 159) (.reg [⟨some 161,.move (.tmp 6),none⟩,⟨some 162,.unOp .not 4 (.tmp 161),none⟩,⟨some 163,.move (.tmp 162),none⟩,⟨some 164,.move (.tmp 9),some (some 163,false)⟩,⟨some 165,.move (.tmp 12),some (some 163,false)⟩,⟨some 166,.indexAddr 43 (.tmp 164) (.tmp 165),some (some 163,false)⟩,⟨some 167,.load 4 (.tmp 166),some (some 163,false)⟩,⟨some 168,.unOp .not 4 (.tmp 167),some (some 163,false)⟩,⟨some 169,.pick (.tmp 163) (.const (.bool true)) (.tmp 168),none⟩,⟨some 170,.move (.tmp 169),none⟩,⟨some 171,.move (.tmp 14),some (some 170,false)⟩,⟨some 172,.indexAddr 43 (.tmp 171) (.const (.int .i64 0)),some (some 170,false)⟩,⟨some 173,.load 4 (.tmp 172),some (some 170,false)⟩,⟨some 174,.pick (.tmp 170) (.const (.bool true)) (.tmp 173),none⟩,⟨some 11,.assign (.tmp 174),none⟩]) (.seq (.reg [⟨some 176,.binOp .eql 3 (.tmp 89) (.const (.int .i64 9)) 3,none⟩,⟨some 175,.assign (.tmp 176),none⟩]) (.cond (.tmp 175) (.reg [⟨some 177,.move (.tmp 6),none⟩,⟨some 178,.unOp .not 4 (.tmp 177),none⟩,⟨some 179,.move (.tmp 178),none⟩,⟨some 180,.move (.tmp 9),some (some 179,false)⟩,⟨some 181,.move (.tmp 12),some (some 179,false)⟩,⟨some 182,.indexAddr 43 (.tmp 180) (.tmp 181),some (some 179,false)⟩,⟨some 183,.load 4 (.tmp 182),some (some 179,false)⟩,⟨some 184,.pick (.tmp 179) (.const (.bool true)) (.tmp 183),none⟩,⟨some 185,.move (.tmp 184),none⟩,⟨some 186,.move (.tmp 14),some (some 185,false)⟩,⟨some 187,.indexAddr 43 (.tmp 186) (.const (.int .i64 0)),some (some 185,false)⟩,⟨some 188,.load 4 (.tmp 187),some (some 185,false)⟩,⟨some 189,.unOp .not 4 (.tmp 188),some (some 185,false)⟩,⟨some 190,.pick (.tmp 185) (.const (.bool true)) (.tmp 189),none⟩,⟨some 11,.assign (.tmp 190),none⟩]) (.skip))))))))))))))))))
def x36_L6 : XC := .seq (.seq (.reg [⟨some 68,.move (.tmp 15),none⟩,⟨some 69,.fieldAddr 24 (.tmp 13) 2,none⟩,⟨some 70,.load 22 (.tmp 69),none⟩,⟨some 71,.call ⟨.builtin .len,#[.tmp 70],#[22]⟩,none⟩,⟨some 72,.binOp .lss 3 (.tmp 68) (.tmp 71) 3,none⟩]) (.cond (.tmp 72) (.skip) (.exit 6))) (.seq (.block 7 (.reg [⟨some 75,.move (.tmp 14),none⟩,⟨some 76,.move (.tmp 9),none⟩,⟨some 77,.move (.tmp 7),none⟩,⟨some 78,.fieldAddr 24 (.tmp 13) 2,none⟩,⟨some 79,.load 22 (.tmp 78),none⟩,⟨some 80,.move (.tmp 15),none⟩,⟨some 81,.indexAddr 22 (.tmp 79) (.tmp 80),none⟩,⟨some 82,.load 24 (.tmp 81),none⟩,⟨some 83,.call ⟨.value (.tmp 77),#[.tmp 82],#[24]⟩,none⟩,⟨some 84,.indexAddr 43 (.tmp 76) (.tmp 83),none⟩,⟨some 85,.load 4 (.tmp 84),none⟩,⟨some 86,.buildSlice 43 1 #[(0,.tmp 85)],none⟩,⟨some 87,.call ⟨.builtin .append,#[.tmp 75,.tmp 86],#[43,43]⟩,none⟩,⟨some 14,.assign (.tmp 87),none⟩])) (.reg [⟨some 73,.move (.tmp 15),none⟩,⟨some 74,.binOp .add 3 (.tmp 73) (.const (.int .i64 1)) 3,none⟩,⟨some 15,.assign (.tmp 74),none⟩]))
def x36_L4 : XC := .seq (.seq (.reg [⟨some 55,.move (.tmp 12),none⟩,⟨some 56,.load 22 (.tmp 2),none⟩,⟨some 57,.call ⟨.builtin .len,#[.tmp 56],#[22]⟩,none⟩,⟨some 58,.binOp .lss 3 (.tmp 55) (.tmp 57) 3,none⟩,⟨some 59,.move (.tmp 58),none⟩,⟨some 60,.move (.tmp 11),some (some 59,true)⟩,⟨some 61,.pick (.tmp 59) (.tmp 60) (.const (.bool false)),none⟩]) (.cond (.tmp 61) (.skip) (.exit 4))) (.seq (.block 5 (.seq (.reg [⟨some 64,.load 22 (.tmp 2),none⟩,⟨some 65,.move (.tmp 12),none⟩,⟨some 66,.indexAddr 22 (.tmp 64) (.tmp 65),none⟩,⟨some 67,.load 24 (.tmp 66),none⟩,⟨some 13,.alloc 24,none⟩,⟨none,.store 24 (.tmp 13) (.tmp 67),none⟩]) (.seq (.reg [⟨some 14,.assign (.const (.slice none 0 0)),none⟩]) (.seq (.seq (.reg [⟨some 15,.assign (.const (.int .i64 0)),none⟩]) (.bloop 6 x36_L6)) (x36_T5))))) (.reg [⟨some 62,.move (.tmp 12),none⟩,⟨some 63,.binOp .add 3 (.tmp 62) (.const (.int .i64 1)) 3,none⟩,⟨some 12,.assign (.tmp 63),none⟩]))
def x36_T2 : XC := .seq (.reg [⟨some 11,.assign (.const (.bool true)),none⟩]) (.seq (.seq (.reg [⟨some 12,.assign (.const (.int .i64 0)),none⟩]) (.bloop 4 x36_L4)) (x36_T6))
def x36_L2 : XC := .seq (.seq (.reg [⟨some 41,.move (.tmp 10),none⟩,⟨some 42,.load 22 (.tmp 2),none⟩,⟨some 43,.call ⟨.builtin .len,#[.tmp 42],#[22]⟩,none⟩,⟨some 44,.binOp .lss 3 (.tmp 41) (.tmp 43) 3,none⟩]) (.cond (.tmp 44) (.skip) (.exit 2))) (.seq (.block 3 (.reg [⟨some 47,.move (.tmp 9),none⟩,⟨some 48,.move (.tmp 10),none⟩,⟨some 49,.move (.tmp 8),none⟩,⟨some 50,.move (.tmp 10),none⟩,⟨some 51,.binOp .shr 3 (.tmp 49) (.tmp 50) 3,none⟩,⟨some 52,.binOp .rem 3 (.tmp 51) (.const (.int .i64 2)) 3,none⟩,⟨some 53,.binOp .eql 3 (.tmp 52) (.const (.int .i64 1)) 3,none⟩,⟨some 54,.indexAddr 43 (.tmp 47) (.tmp 48),none⟩,⟨none,.store 4 (.tmp 54) (.tmp 53),none⟩])) (.reg [⟨some 45,.move (.tmp 10),none⟩,⟨some 46,.binOp .add 3 (.tmp 45) (.const (.int .i64 1)) 3,none⟩,⟨some 10,.assign (.tmp 46),none⟩]))
def x36_L0 : XC := .seq (.seq (.reg [⟨some 31,.move (.tmp 8),none⟩,⟨some 32,.load 22 (.tmp 2),none⟩,⟨some 33,.call ⟨.builtin .len,#[.tmp 32],#[22]⟩,none⟩,⟨some 34,.binOp .shl 3 (.const (.int .i64 1)) (.tmp 33) 3,none⟩,⟨some 35,.binOp .lss 3 (.tmp 31) (.tmp 34) 3,none⟩]) (.cond (.tmp 35) (.skip) (.exit 0))) (.seq (.block 1 (.seq (.reg [⟨some 38,.load 22 (.tmp 2),none⟩,⟨some 39,.call ⟨.builtin .len,#[.tmp 38],#[22]⟩,none⟩,⟨some 40,.makeSlice 43 (.tmp 39) (.tmp 39),none⟩,⟨some 9,.assign (.tmp 40),none⟩]) (.seq (.seq (.reg [⟨some 10,.assign (.const (.int .i64 0)),none⟩]) (.bloop 2 x36_L2)) (x36_T2)))) (.reg [⟨some 36,.move (.tmp 8),none⟩,⟨some 37,.binOp .add 3 (.tmp 36) (.const (.int .i64 1)) 3,none⟩,⟨some 8,.assign (.tmp 37),none⟩]))
def x36 : XC := .seq (.reg [⟨some 2,.box 22 (.tmp 0),none⟩,⟨some 4,.assign (.const (.slice none 0 0)),none⟩]) (.seq (.reg [⟨some 5,.assign (.const (.slice none 0 0)),none⟩]) (.seq (.reg [⟨some 16,.move (.tmp 1),none⟩,⟨some 17,.binOp .eql 3 (.tmp 16) (.const (.int .i64 3)) 3,none⟩,⟨some 18,.move (.tmp 17),none⟩,⟨some 19,.move (.tmp 1),some (some 18,false)⟩,⟨some 20,.binOp .eql 3 (.tmp 19) (.const (.int .i64 5)) 3,some (some 18,false)⟩,⟨some 21,.pick (.tmp 18) (.const (.bool true)) (.tmp 20),none⟩,⟨some 22,.move (.tmp 21),none⟩,⟨some 23,.move (.tmp 1),some (some 22,false)⟩,⟨some 24,.binOp .eql 3 (.tmp 23) (.const (.int .i64 6)) 3,some (some 22,false)⟩,⟨some 25,.pick (.tmp 22) (.const (.bool true)) (.tmp 24),none⟩,⟨some 26,.move (.tmp 25),none⟩,⟨some 27,.move (.tmp 1),some (some 26,false)⟩,⟨some 28,.binOp .eql 3 (.tmp 27) (.const (.int .i64 7)) 3,some (some 26,false)⟩,⟨some 29,.pick (.tmp 26) (.const (.bool true)) (.tmp 28),none⟩,⟨some 6,.assign (.tmp 29),none⟩]) (.seq (.reg [⟨some 30,.makeFunc (.func 59) #[] #[.tmp 2],none⟩,⟨some 7,.assign (.tmp 30),none⟩]) (.seq (.seq (.reg [⟨some 8,.assign (.const (.int .i64 0)),none⟩]) (.bloop 0 x36_L0)) (x36_T7)))))
@[simp] theorem x36_s {C : WC} {e : AE} {s : Store} {K : KS} : type_of% (@X_at C e s K _ _ x36_T7.eq_1) ∧ type_of% (@X_at C e s K _ _ x36_T6.eq_1) ∧ type_of% (@X_at C e s K _ _ x36_T5.eq_1) ∧ type_of% (@X_at C e s K _ _ x36_L6.eq_1) ∧ type_of% (@X_at C e s K _ _ x36_L4.eq_1) ∧ type_of% (@X_at C e s K _ _ x36_T2.eq_1) ∧ type_of% (@X_at C e s K _ _ x36_L2.eq_1) ∧ type_of% (@X_at C e s K _ _ x36_L0.eq_1) ∧ type_of% (@X_at C e s K _ _ x36.eq_1) := ⟨X_at x36_T7.eq_1, X_at x36_T6.eq_1, X_at x36_T5.eq_1, X_at x36_L6.eq_1, X_at x36_L4.eq_1, X_at x36_T2.eq_1, X_at x36_L2.eq_1, X_at x36_L0.eq_1, X_at x36.eq_1⟩
def an36 : Ann := ⟨[(30, .mix 12), (32, .mix 12), (34, .mix 13)], [(6, [(14, none, 1)], [2, 5, 6, 7, 8, 9, 11, 12, 13, 14, 15], [2, 5, 6, 7, 8, 9, 11, 12, 13, 14]), (4, [], [2, 5, 6, 7, 8, 9, 11, 12], [2, 5, 6, 7, 8, 9, 11]), (2, [], [2, 5, 6, 7, 8, 9, 10], [2, 5, 6, 7, 8, 9]), (0, [(5, none, 1)], [2, 5, 6, 7, 8], [5])], []⟩
def cx36 (P : Program) (m : Nat) : WC := ⟨P, m, an36⟩
@[simp] theorem cx36_a {P : Program} {m : Nat} : (cx36 P m).P = P ∧ (cx36 P m).m = m ∧ (cx36 P m).A.clsOf 28 = .draw ∧ (cx36 P m).A.clsOf 30 = .mix 12 ∧ (cx36 P m).A.clsOf 32 = .mix 12 ∧ (cx36 P m).A.clsOf 34 = .mix 13 ∧ (cx36 P m).A.frzOf 28 = [] ∧ (cx36 P m).A.frzOf 30 = [] ∧ (cx36 P m).A.frzOf 32 = [] ∧ (cx36 P m).A.frzOf 34 = [] ∧ (cx36 P m).A.loopOf 6 = ([(14, none, 1)], [2, 5, 6, 7, 8, 9, 11, 12, 13, 14, 15], [2, 5, 6, 7, 8, 9, 11, 12, 13, 14]) ∧ (cx36 P m).A.loopOf 4 = ([], [2, 5, 6, 7, 8, 9, 11, 12], [2, 5, 6, 7, 8, 9, 11]) ∧ (cx36 P m).A.loopOf 2 = ([], [2, 5, 6, 7, 8, 9, 10], [2, 5, 6, 7, 8, 9]) ∧ (cx36 P m).A.loopOf 0 = ([(5, none, 1)], [2, 5, 6, 7, 8], [5]) := ⟨rfl, rfl, rfl, rfl, rfl, rfl, rfl, rfl, rfl, rfl, rfl, rfl, rfl, rfl⟩
instance {P : Program} {m f : Nat} [h : EnT P f] : EnT (cx36 P m).P f := h
theorem chk36 : ∀ c, Try.f36.body = some c → chkC Try.f36.ntmps an36 c = true := by intro c h; obtain rfl := Option.some.inj h; decide +kernel
theorem op36 {args : List PV} {v : PV} (h : X (cx36 Try.prog 0) x36 (argsA 0 args) [] (.fin [.tmp 4] fun v1 s1 => deref s1 6 v1 = v)) (hl : args.length ≤ Try.f36.ntmps := by rw [Try.ntmps36]; simp) : CallOK Try.prog 36 args [] v [] :=
  callX (m := 0) (cx36 Try.prog 0) x36 rfl rfl (by kernel_rfl) Try.func36 rfl rfl hl mixed (chk36 _ rfl) (by rw [Try.results36]; exact h)

theorem typesOf_ref (l : List Fm) (lg : Nat) (hl : l.length ≤ 10) (hok : ∀ f ∈ l, OkF (fun n => isNameB n = true) f) (hkid : ∀ g ∈ l, ∀ k ∈ g.kids, k ∈ l) (h8 : lg ≤ 8) :
    CallOK Try.prog 36 [.list (l.map frm), .int .i64 (lg : Int)] [] (.list (((List.range (2 ^ l.length)).filter (sceneOf lg l []).locl).map (vecR l.length))) [] := by
  have hsh := shl_nat l.length (by omega)
  have hM : 2 ^ l.length ≤ 1024 := Nat.le_trans (Nat.pow_le_pow_right (by decide) hl) (by decide)
  generalize hMe : 2 ^ l.length = M at hsh hM ⊢
  have key : ∀ self : Bool, self = (sceneOf lg l []).refl → W (cx36 Try.prog 0) 0 x36_L0 (KS.seq x36_T7 (KS.fin [.tmp 4] fun v1 s1 => deref s1 6 v1 = .list (((List.range M).filter (sceneOf lg l []).locl).map (vecR l.length))))
      [(2, .ptr 0 0 0), (5, .sl 1 0 0), (6, .bool self), (7, .fn (.func 59) [] [.ptr 0 0 0]), (8, .int .i64 0)] [.rows 1 [[.list (l.map frm)]], .rows 1 []] := by
    intro self hself
    refine W_of fun Q hQ => ?_
    have main : ∀ r k, k + r = M → Q [(2, .ptr 0 0 0), (5, .sl 1 0 ((List.range k).filter (sceneOf lg l []).locl).length), (6, .bool self), (7, .fn (.func 59) [] [.ptr 0 0 0]), (8, .int .i64 (k : Int))]
        [.rows 1 [[.list (l.map frm)]], .rows 1 (((List.range k).filter (sceneOf lg l []).locl).map (vecR l.length))] := by
      intro r
      induction r with
      | zero =>
        intro k hk
        obtain rfl : k = M := by omega
        apply hQ
        (((try simp (implicitDefEqProofs := false) [hsh]); (try simp (implicitDefEqProofs := false) (disch := first | assumption | (try simp only [lens]); omega -splitDisjunctions) [hsh])); all_goals try (repeat' ((first | ((with_reducible first | refine And.intro ?_ ?_ | refine Exists.intro ?_ ?_); first | omega | (simp <;> omega)) | (with_reducible refine spl (And.intro ?_ ?_) <;> intro _)) <;> ((try simp (implicitDefEqProofs := false) [hsh]); (try simp (implicitDefEqProofs := false) (disch := first | assumption | (try simp only [lens]); omega -splitDisjunctions) [hsh])))))
      | succ r ihr =>
        intro k hk
        have ihr := ihr (k + 1) (by omega)
        have hfl := List.length_filter_le (sceneOf lg l []).locl (List.range k)
        rw [List.length_range] at hfl
        rw [List.range_succ, List.filter_append] at ihr
        generalize hT : (List.range k).filter (sceneOf lg l []).locl = T at ihr hfl ⊢
        apply hQ
        (((try simp (implicitDefEqProofs := false) [hsh]); (try simp (implicitDefEqProofs := false) (disch := first | assumption | (try simp only [lens]); omega -splitDisjunctions) [hsh])); all_goals try (repeat' ((first | ((with_reducible first | refine And.intro ?_ ?_ | refine Exists.intro ?_ ?_); first | omega | (simp <;> omega)) | (with_reducible refine spl (And.intro ?_ ?_) <;> intro _)) <;> ((try simp (implicitDefEqProofs := false) [hsh]); (try simp (implicitDefEqProofs := false) (disch := first | assumption | (try simp only [lens]); omega -splitDisjunctions) [hsh])))))
        refine W_of fun Q2 hQ2 => ?_
        have main2 : ∀ r i, i + r = l.length → Q2 [(2, .ptr 0 0 0), (5, .sl 1 0 T.length), (6, .bool self), (7, .fn (.func 59) [] [.ptr 0 0 0]), (8, .int .i64 (k : Int)), (9, .sl 2 0 l.length), (10, .int .i64 (i : Int))]
            [.rows 1 [[.list (l.map frm)]], .rows 1 (T.map (vecR l.length)), .rows 1 ((partB k.testBit l.length i).map boolRow)] := by
          intro r
          induction r with
          | zero =>
            intro i hi
            obtain rfl : i = l.length := by omega
            rw [partB_all, show (List.range l.length).map k.testBit = bitsL l.length k from rfl]
            apply hQ2
            (((try simp (implicitDefEqProofs := false)); (try simp (implicitDefEqProofs := false) (disch := first | assumption | (try simp only [lens]); omega -splitDisjunctions))); all_goals try (repeat' ((first | ((with_reducible first | refine And.intro ?_ ?_ | refine Exists.intro ?_ ?_); first | omega | (simp <;> omega)) | (with_reducible refine spl (And.intro ?_ ?_) <;> intro _)) <;> ((try simp (implicitDefEqProofs := false)); (try simp (implicitDefEqProofs := false) (disch := first | assumption | (try simp only [lens]); omega -splitDisjunctions))))))
            refine W_of fun Q4 hQ4 => ?_
            have main4 : ∀ r i, i + r = l.length → Q4 [(2, .ptr 0 0 0), (5, .sl 1 0 T.length), (6, .bool self), (7, .fn (.func 59) [] [.ptr 0 0 0]), (8, .int .i64 (k : Int)), (9, .sl 2 0 l.length), (11, .bool ((List.range i).all fun j => k.testBit j == (sceneOf lg l []).want k j)), (12, .int .i64 (i : Int))]
                [.rows 1 [[.list (l.map frm)]], .rows 1 (T.map (vecR l.length)), .rows 1 ((bitsL l.length k).map boolRow)] := by
              intro r
              induction r with
              | zero =>
                intro i hi
                obtain rfl : i = l.length := by omega
                rw [show ((List.range l.length).all fun j => k.testBit j == (sceneOf lg l []).want k j) = (sceneOf lg l []).locl k from rfl]
                apply hQ4
                cases hlo : (sceneOf lg l []).locl k with
                | true =>
                  simp only [List.filter_cons, hlo, if_true, List.filter_nil] at ihr
                  (((try simp (implicitDefEqProofs := false)); (try simp (implicitDefEqProofs := false) (disch := first | assumption | (try simp only [lens]); omega -splitDisjunctions))); all_goals try (repeat' ((first | ((with_reducible first | refine And.intro ?_ ?_ | refine Exists.intro ?_ ?_); first | omega | (simp <;> omega)) | (with_reducible refine spl (And.intro ?_ ?_) <;> intro _)) <;> ((try simp (implicitDefEqProofs := false)); (try simp (implicitDefEqProofs := false) (disch := first | assumption | (try simp only [lens]); omega -splitDisjunctions))))))
                  rw [List.take_of_length_le (by simp)]
                  simpa [vecR] using ihr
                | false =>
                  simp only [List.filter_cons, hlo, List.filter_nil] at ihr
                  (((try simp (implicitDefEqProofs := false)); (try simp (implicitDefEqProofs := false) (disch := first | assumption | (try simp only [lens]); omega -splitDisjunctions))); all_goals try (repeat' ((first | ((with_reducible first | refine And.intro ?_ ?_ | refine Exists.intro ?_ ?_); first | omega | (simp <;> omega)) | (with_reducible refine spl (And.intro ?_ ?_) <;> intro _)) <;> ((try simp (implicitDefEqProofs := false)); (try simp (implicitDefEqProofs := false) (disch := first | assumption | (try simp only [lens]); omega -splitDisjunctions))))))
                  simpa using ihr
              | succ r ih4 =>
                intro i hi
                have hin : i < l.length := by omega
                cases hal : (List.range i).all fun j => k.testBit j == (sceneOf lg l []).want k j with
                | false =>
                  have hlo : (sceneOf lg l []).locl k = false := by
                    rw [List.all_eq_false] at hal
                    obtain ⟨j, hj, hb⟩ := hal
                    rw [List.mem_range] at hj
                    exact all_range_false (show j < l.length by omega) (by simpa using hb)
                  simp only [List.filter_cons, hlo, List.filter_nil] at ihr
                  apply hQ4
                  (((try simp (implicitDefEqProofs := false) [hin]); (try simp (implicitDefEqProofs := false) (disch := first | assumption | (try simp only [lens]); omega -splitDisjunctions) [hin])); all_goals try (repeat' ((first | ((with_reducible first | refine And.intro ?_ ?_ | refine Exists.intro ?_ ?_); first | omega | (simp <;> omega)) | (with_reducible refine spl (And.intro ?_ ?_) <;> intro _)) <;> ((try simp (implicitDefEqProofs := false) [hin]); (try simp (implicitDefEqProofs := false) (disch := first | assumption | (try simp only [lens]); omega -splitDisjunctions) [hin])))))
                  simpa using ihr
                | true =>
                  have ih4 := ih4 (i + 1) (by omega)
                  rw [all_range_succ, hal, Bool.true_and] at ih4
                  apply hQ4
                  (((try simp (implicitDefEqProofs := false) [hin]); (try simp (implicitDefEqProofs := false) (disch := first | assumption | (try simp only [lens]); omega -splitDisjunctions) [hin])); all_goals try (repeat' ((first | ((with_reducible first | refine And.intro ?_ ?_ | refine Exists.intro ?_ ?_); first | omega | (simp <;> omega)) | (with_reducible refine spl (And.intro ?_ ?_) <;> intro _)) <;> ((try simp (implicitDefEqProofs := false) [hin]); (try simp (implicitDefEqProofs := false) (disch := first | assumption | (try simp only [lens]); omega -splitDisjunctions) [hin])))))
                  refine W_of fun Q6 hQ6 => ?_
                  obtain ⟨f, hf⟩ : ∃ f, f = l[i] := ⟨_, rfl⟩
                  have hfl : l[i]? = some f := by rw [hf]; exact List.getElem?_eq_getElem hin
                  have hmem : f ∈ l := hf ▸ List.getElem_mem hin
                  have hkd := kind_at (lg := lg) (ws := []) hfl
                  rw [← hf]
                  clear hf
                  rcases (hok f hmem).nine with ⟨nm, hn, rfl⟩ | ⟨nm, rfl⟩ | ⟨nm, rfl⟩ | ⟨nm, a, ha, rfl⟩ | ⟨nm, a, b, ha, hb, rfl⟩ | ⟨nm, a, b, ha, hb, rfl⟩ | ⟨nm, a, b, ha, hb, rfl⟩ | ⟨nm, a, ha, rfl⟩ | ⟨nm, a, ha, rfl⟩
                  · have hw : (sceneOf lg l []).want k i = k.testBit i := by simp [Sc.want, hkd]
                    rw [hw] at ih4
                    apply hQ6
                    clear hQ6 hQ4 hQ2 hQ
                    (((try simp (implicitDefEqProofs := false) [bitsL_get, hin]); (try simp (implicitDefEqProofs := false) (disch := first | assumption | (try simp only [lens]); omega -splitDisjunctions) [bitsL_get, hin])); all_goals try (repeat' ((first | ((with_reducible first | refine And.intro ?_ ?_ | refine Exists.intro ?_ ?_); first | omega | (simp <;> omega)) | (with_reducible refine spl (And.intro ?_ ?_) <;> intro _)) <;> ((try simp (implicitDefEqProofs := false) [bitsL_get, hin]); (try simp (implicitDefEqProofs := false) (disch := first | assumption | (try simp only [lens]); omega -splitDisjunctions) [bitsL_get, hin])))))
                    all_goals first | (simpa using ih4; done) | (revert ih4; simp_all; done) | (revert ih4; generalize k.testBit i = x; generalize k.testBit (idxF l a) = y; cases x <;> cases y <;> simp; done)
                  · have hw : (sceneOf lg l []).want k i = true := by simp [Sc.want, hkd]
                    rw [hw] at ih4
                    apply hQ6
                    clear hQ6 hQ4 hQ2 hQ
                    (((try simp (implicitDefEqProofs := false) [bitsL_get, hin]); (try simp (implicitDefEqProofs := false) (disch := first | assumption | (try simp only [lens]); omega -splitDisjunctions) [bitsL_get, hin])); all_goals try (repeat' ((first | ((with_reducible first | refine And.intro ?_ ?_ | refine Exists.intro ?_ ?_); first | omega | (simp <;> omega)) | (with_reducible refine spl (And.intro ?_ ?_) <;> intro _)) <;> ((try simp (implicitDefEqProofs := false) [bitsL_get, hin]); (try simp (implicitDefEqProofs := false) (disch := first | assumption | (try simp only [lens]); omega -splitDisjunctions) [bitsL_get, hin])))))
                    all_goals first | (simpa using ih4; done) | (revert ih4; simp_all; done) | (revert ih4; generalize k.testBit i = x; generalize k.testBit (idxF l a) = y; cases x <;> cases y <;> simp; done)
                  · have hw : (sceneOf lg l []).want k i = false := by simp [Sc.want, hkd]
                    rw [hw] at ih4
                    apply hQ6
                    clear hQ6 hQ4 hQ2 hQ
                    (((try simp (implicitDefEqProofs := false) [bitsL_get, hin]); (try simp (implicitDefEqProofs := false) (disch := first | assumption | (try simp only [lens]); omega -splitDisjunctions) [bitsL_get, hin])); all_goals try (repeat' ((first | ((with_reducible first | refine And.intro ?_ ?_ | refine Exists.intro ?_ ?_); first | omega | (simp <;> omega)) | (with_reducible refine spl (And.intro ?_ ?_) <;> intro _)) <;> ((try simp (implicitDefEqProofs := false) [bitsL_get, hin]); (try simp (implicitDefEqProofs := false) (disch := first | assumption | (try simp only [lens]); omega -splitDisjunctions) [bitsL_get, hin])))))
                    all_goals first | (simpa using ih4; done) | (revert ih4; simp_all; done) | (revert ih4; generalize k.testBit i = x; generalize k.testBit (idxF l a) = y; cases x <;> cases y <;> simp; done)
                  · have wa := whereI_eq (hkid _ hmem a (by simp))
                    have ka := kid_idx (lg := lg) (ws := []) (j := 0) (k := a) hfl rfl
                    have hw : (sceneOf lg l []).want k i = !k.testBit (idxF l a) := by simp [Sc.want, hkd, ka]
                    rw [hw] at ih4
                    apply hQ6
                    (((try simp (implicitDefEqProofs := false) [bitsL_get, hin, wa.1, wa.2]); (try simp (implicitDefEqProofs := false) (disch := first | assumption | (try simp only [lens]); omega -splitDisjunctions) [bitsL_get, hin, wa.1, wa.2])); all_goals try (repeat' ((first | ((with_reducible first | refine And.intro ?_ ?_ | refine Exists.intro ?_ ?_); first | omega | (simp <;> omega)) | (with_reducible refine spl (And.intro ?_ ?_) <;> intro _) | (refine CL.see (where1_ref l a) ?_ ?_ ?_; (focus (simp [scn]; done)); (focus (simp [flats]; done))) | (refine CD.see (where1_ref l a) ?_ ?_ ?_; (focus (simp [scn]; done)); (focus (simp [flats]; done)))) <;> ((try simp (implicitDefEqProofs := false) [bitsL_get, hin, wa.1, wa.2]); (try simp (implicitDefEqProofs := false) (disch := first | assumption | (try simp only [lens]); omega -splitDisjunctions) [bitsL_get, hin, wa.1, wa.2])))))
                    apply hQ6
                    clear hQ6 hQ4 hQ2 hQ
                    (((try simp (implicitDefEqProofs := false) [bitsL_get, hin]); (try simp (implicitDefEqProofs := false) (disch := first | assumption | (try simp only [lens]); omega -splitDisjunctions) [bitsL_get, hin])); all_goals try (repeat' ((first | ((with_reducible first | refine And.intro ?_ ?_ | refine Exists.intro ?_ ?_); first | omega | (simp <;> omega)) | (with_reducible refine spl (And.intro ?_ ?_) <;> intro _)) <;> ((try simp (implicitDefEqProofs := false) [bitsL_get, hin]); (try simp (implicitDefEqProofs := false) (disch := first | assumption | (try simp only [lens]); omega -splitDisjunctions) [bitsL_get, hin])))))
                    all_goals first | (simpa using ih4; done) | (revert ih4; simp_all; done) | (revert ih4; generalize k.testBit i = x; generalize k.testBit (idxF l a) = y; cases x <;> cases y <;> simp; done)
                  · have wa := whereI_eq (hkid _ hmem a (by simp))
                    have wb := whereI_eq (hkid _ hmem b (by simp))
                    have ka := kid_idx (lg := lg) (ws := []) (j := 0) (k := a) hfl rfl
                    have kb := kid_idx (lg := lg) (ws := []) (j := 1) (k := b) hfl rfl
                    have hw : (sceneOf lg l []).want k i = (k.testBit (idxF l a) && k.testBit (idxF l b)) := by simp [Sc.want, hkd, ka, kb]
                    rw [hw] at ih4
                    apply hQ6
                    (((try simp (implicitDefEqProofs := false) [bitsL_get, hin, wa.1, wa.2, wb.1, wb.2]); (try simp (implicitDefEqProofs := false) (disch := first | assumption | (try simp only [lens]); omega -splitDisjunctions) [bitsL_get, hin, wa.1, wa.2, wb.1, wb.2])); all_goals try (repeat' ((first | ((with_reducible first | refine And.intro ?_ ?_ | refine Exists.intro ?_ ?_); first | omega | (simp <;> omega)) | (with_reducible refine spl (And.intro ?_ ?_) <;> intro _) | (refine CL.see (where1_ref l a) ?_ ?_ ?_; (focus (simp [scn]; done)); (focus (simp [flats]; done))) | (refine CD.see (where1_ref l a) ?_ ?_ ?_; (focus (simp [scn]; done)); (focus (simp [flats]; done)))) <;> ((try simp (implicitDefEqProofs := false) [bitsL_get, hin, wa.1, wa.2, wb.1, wb.2]); (try simp (implicitDefEqProofs := false) (disch := first | assumption | (try simp only [lens]); omega -splitDisjunctions) [bitsL_get, hin, wa.1, wa.2, wb.1, wb.2])))))
                    apply hQ6
                    (((try simp (implicitDefEqProofs := false) [bitsL_get, hin, wa.1, wa.2, wb.1, wb.2]); (try simp (implicitDefEqProofs := false) (disch := first | assumption | (try simp only [lens]); omega -splitDisjunctions) [bitsL_get, hin, wa.1, wa.2, wb.1, wb.2])); all_goals try (repeat' ((first | ((with_reducible first | refine And.intro ?_ ?_ | refine Exists.intro ?_ ?_); first | omega | (simp <;> omega)) | (with_reducible refine spl (And.intro ?_ ?_) <;> intro _) | (refine CL.see (where1_ref l b) ?_ ?_ ?_; (focus (simp [scn]; done)); (focus (simp [flats]; done))) | (refine CD.see (where1_ref l b) ?_ ?_ ?_; (focus (simp [scn]; done)); (focus (simp [flats]; done)))) <;> ((try simp (implicitDefEqProofs := false) [bitsL_get, hin, wa.1, wa.2, wb.1, wb.2]); (try simp (implicitDefEqProofs := false) (disch := first | assumption | (try simp only [lens]); omega -splitDisjunctions) [bitsL_get, hin, wa.1, wa.2, wb.1, wb.2])))))
                    apply hQ6
                    clear hQ6 hQ4 hQ2 hQ
                    (((try simp (implicitDefEqProofs := false) [bitsL_get, hin]); (try simp (implicitDefEqProofs := false) (disch := first | assumption | (try simp only [lens]); omega -splitDisjunctions) [bitsL_get, hin])); all_goals try (repeat' ((first | ((with_reducible first | refine And.intro ?_ ?_ | refine Exists.intro ?_ ?_); first | omega | (simp <;> omega)) | (with_reducible refine spl (And.intro ?_ ?_) <;> intro _)) <;> ((try simp (implicitDefEqProofs := false) [bitsL_get, hin]); (try simp (implicitDefEqProofs := false) (disch := first | assumption | (try simp only [lens]); omega -splitDisjunctions) [bitsL_get, hin])))))
                    all_goals first | (simpa using ih4; done) | (revert ih4; simp_all; done) | (revert ih4; generalize k.testBit i = x; generalize k.testBit (idxF l a) = y; cases x <;> cases y <;> simp; done)
                  · have wa := whereI_eq (hkid _ hmem a (by simp))
                    have wb := whereI_eq (hkid _ hmem b (by simp))
                    have ka := kid_idx (lg := lg) (ws := []) (j := 0) (k := a) hfl rfl
                    have kb := kid_idx (lg := lg) (ws := []) (j := 1) (k := b) hfl rfl
                    have hw : (sceneOf lg l []).want k i = (k.testBit (idxF l a) || k.testBit (idxF l b)) := by simp [Sc.want, hkd, ka, kb]
                    rw [hw] at ih4
                    apply hQ6
                    (((try simp (implicitDefEqProofs := false) [bitsL_get, hin, wa.1, wa.2, wb.1, wb.2]); (try simp (implicitDefEqProofs := false) (disch := first | assumption | (try simp only [lens]); omega -splitDisjunctions) [bitsL_get, hin, wa.1, wa.2, wb.1, wb.2])); all_goals try (repeat' ((first | ((with_reducible first | refine And.intro ?_ ?_ | refine Exists.intro ?_ ?_); first | omega | (simp <;> omega)) | (with_reducible refine spl (And.intro ?_ ?_) <;> intro _) | (refine CL.see (where1_ref l a) ?_ ?_ ?_; (focus (simp [scn]; done)); (focus (simp [flats]; done))) | (refine CD.see (where1_ref l a) ?_ ?_ ?_; (focus (simp [scn]; done)); (focus (simp [flats]; done)))) <;> ((try simp (implicitDefEqProofs := false) [bitsL_get, hin, wa.1, wa.2, wb.1, wb.2]); (try simp (implicitDefEqProofs := false) (disch := first | assumption | (try simp only [lens]); omega -splitDisjunctions) [bitsL_get, hin, wa.1, wa.2, wb.1, wb.2])))))
                    apply hQ6
                    (((try simp (implicitDefEqProofs := false) [bitsL_get, hin, wa.1, wa.2, wb.1, wb.2]); (try simp (implicitDefEqProofs := false) (disch := first | assumption | (try simp only [lens]); omega -splitDisjunctions) [bitsL_get, hin, wa.1, wa.2, wb.1, wb.2])); all_goals try (repeat' ((first | ((with_reducible first | refine And.intro ?_ ?_ | refine Exists.intro ?_ ?_); first | omega | (simp <;> omega)) | (with_reducible refine spl (And.intro ?_ ?_) <;> intro _) | (refine CL.see (where1_ref l b) ?_ ?_ ?_; (focus (simp [scn]; done)); (focus (simp [flats]; done))) | (refine CD.see (where1_ref l b) ?_ ?_ ?_; (focus (simp [scn]; done)); (focus (simp [flats]; done)))) <;> ((try simp (implicitDefEqProofs := false) [bitsL_get, hin, wa.1, wa.2, wb.1, wb.2]); (try simp (implicitDefEqProofs := false) (disch := first | assumption | (try simp only [lens]); omega -splitDisjunctions) [bitsL_get, hin, wa.1, wa.2, wb.1, wb.2])))))
                    apply hQ6
                    clear hQ6 hQ4 hQ2 hQ
                    (((try simp (implicitDefEqProofs := false) [bitsL_get, hin]); (try simp (implicitDefEqProofs := false) (disch := first | assumption | (try simp only [lens]); omega -splitDisjunctions) [bitsL_get, hin])); all_goals try (repeat' ((first | ((with_reducible first | refine And.intro ?_ ?_ | refine Exists.intro ?_ ?_); first | omega | (simp <;> omega)) | (with_reducible refine spl (And.intro ?_ ?_) <;> intro _)) <;> ((try simp (implicitDefEqProofs := false) [bitsL_get, hin]); (try simp (implicitDefEqProofs := false) (disch := first | assumption | (try simp only [lens]); omega -splitDisjunctions) [bitsL_get, hin])))))
                    all_goals first | (simpa using ih4; done) | (revert ih4; simp_all; done) | (revert ih4; generalize k.testBit i = x; generalize k.testBit (idxF l a) = y; cases x <;> cases y <;> simp; done)
                  · have wa := whereI_eq (hkid _ hmem a (by simp))
                    have wb := whereI_eq (hkid _ hmem b (by simp))
                    have ka := kid_idx (lg := lg) (ws := []) (j := 0) (k := a) hfl rfl
                    have kb := kid_idx (lg := lg) (ws := []) (j := 1) (k := b) hfl rfl
                    have hw : (sceneOf lg l []).want k i = (!k.testBit (idxF l a) || k.testBit (idxF l b)) := by simp [Sc.want, hkd, ka, kb]
                    rw [hw] at ih4
                    apply hQ6
                    (((try simp (implicitDefEqProofs := false) [bitsL_get, hin, wa.1, wa.2, wb.1, wb.2]); (try simp (implicitDefEqProofs := false) (disch := first | assumption | (try simp only [lens]); omega -splitDisjunctions) [bitsL_get, hin, wa.1, wa.2, wb.1, wb.2])); all_goals try (repeat' ((first | ((with_reducible first | refine And.intro ?_ ?_ | refine Exists.intro ?_ ?_); first | omega | (simp <;> omega)) | (with_reducible refine spl (And.intro ?_ ?_) <;> intro _) | (refine CL.see (where1_ref l a) ?_ ?_ ?_; (focus (simp [scn]; done)); (focus (simp [flats]; done))) | (refine CD.see (where1_ref l a) ?_ ?_ ?_; (focus (simp [scn]; done)); (focus (simp [flats]; done)))) <;> ((try simp (implicitDefEqProofs := false) [bitsL_get, hin, wa.1, wa.2, wb.1, wb.2]); (try simp (implicitDefEqProofs := false) (disch := first | assumption | (try simp only [lens]); omega -splitDisjunctions) [bitsL_get, hin, wa.1, wa.2, wb.1, wb.2])))))
                    apply hQ6
                    (((try simp (implicitDefEqProofs := false) [bitsL_get, hin, wa.1, wa.2, wb.1, wb.2]); (try simp (implicitDefEqProofs := false) (disch := first | assumption | (try simp only [lens]); omega -splitDisjunctions) [bitsL_get, hin, wa.1, wa.2, wb.1, wb.2])); all_goals try (repeat' ((first | ((with_reducible first | refine And.intro ?_ ?_ | refine Exists.intro ?_ ?_); first | omega | (simp <;> omega)) | (with_reducible refine spl (And.intro ?_ ?_) <;> intro _) | (refine CL.see (where1_ref l b) ?_ ?_ ?_; (focus (simp [scn]; done)); (focus (simp [flats]; done))) | (refine CD.see (where1_ref l b) ?_ ?_ ?_; (focus (simp [scn]; done)); (focus (simp [flats]; done)))) <;> ((try simp (implicitDefEqProofs := false) [bitsL_get, hin, wa.1, wa.2, wb.1, wb.2]); (try simp (implicitDefEqProofs := false) (disch := first | assumption | (try simp only [lens]); omega -splitDisjunctions) [bitsL_get, hin, wa.1, wa.2, wb.1, wb.2])))))
                    apply hQ6
                    clear hQ6 hQ4 hQ2 hQ
                    (((try simp (implicitDefEqProofs := false) [bitsL_get, hin]); (try simp (implicitDefEqProofs := false) (disch := first | assumption | (try simp only [lens]); omega -splitDisjunctions) [bitsL_get, hin])); all_goals try (repeat' ((first | ((with_reducible first | refine And.intro ?_ ?_ | refine Exists.intro ?_ ?_); first | omega | (simp <;> omega)) | (with_reducible refine spl (And.intro ?_ ?_) <;> intro _)) <;> ((try simp (implicitDefEqProofs := false) [bitsL_get, hin]); (try simp (implicitDefEqProofs := false) (disch := first | assumption | (try simp only [lens]); omega -splitDisjunctions) [bitsL_get, hin])))))
                    all_goals first | (simpa using ih4; done) | (revert ih4; simp_all; done) | (revert ih4; generalize k.testBit i = x; generalize k.testBit (idxF l a) = y; cases x <;> cases y <;> simp; done)
                  · have wa := whereI_eq (hkid _ hmem a (by simp))
                    have ka := kid_idx (lg := lg) (ws := []) (j := 0) (k := a) hfl rfl
                    have hw : (sceneOf lg l []).want k i = (k.testBit i && (k.testBit (idxF l a) || !self)) := by simp [Sc.want, hkd, ka, hself]
                    rw [hw] at ih4
                    apply hQ6
                    (((try simp (implicitDefEqProofs := false) [bitsL_get, hin, wa.1, wa.2]); (try simp (implicitDefEqProofs := false) (disch := first | assumption | (try simp only [lens]); omega -splitDisjunctions) [bitsL_get, hin, wa.1, wa.2])); all_goals try (repeat' ((first | ((with_reducible first | refine And.intro ?_ ?_ | refine Exists.intro ?_ ?_); first | omega | (simp <;> omega)) | (with_reducible refine spl (And.intro ?_ ?_) <;> intro _) | (refine CL.see (where1_ref l a) ?_ ?_ ?_; (focus (simp [scn]; done)); (focus (simp [flats]; done))) | (refine CD.see (where1_ref l a) ?_ ?_ ?_; (focus (simp [scn]; done)); (focus (simp [flats]; done)))) <;> ((try simp (implicitDefEqProofs := false) [bitsL_get, hin, wa.1, wa.2]); (try simp (implicitDefEqProofs := false) (disch := first | assumption | (try simp only [lens]); omega -splitDisjunctions) [bitsL_get, hin, wa.1, wa.2])))))
                    apply hQ6
                    clear hQ6 hQ4 hQ2 hQ
                    (((try simp (implicitDefEqProofs := false) [bitsL_get, hin]); (try simp (implicitDefEqProofs := false) (disch := first | assumption | (try simp only [lens]); omega -splitDisjunctions) [bitsL_get, hin])); all_goals try (repeat' ((first | ((with_reducible first | refine And.intro ?_ ?_ | refine Exists.intro ?_ ?_); first | omega | (simp <;> omega)) | (with_reducible refine spl (And.intro ?_ ?_) <;> intro _)) <;> ((try simp (implicitDefEqProofs := false) [bitsL_get, hin]); (try simp (implicitDefEqProofs := false) (disch := first | assumption | (try simp only [lens]); omega -splitDisjunctions) [bitsL_get, hin])))))
                    all_goals first | (simpa using ih4; done) | (revert ih4; simp_all; done) | (revert ih4; generalize k.testBit i = x; generalize k.testBit (idxF l a) = y; cases x <;> cases y <;> simp; done)
                  · have wa := whereI_eq (hkid _ hmem a (by simp))
                    have ka := kid_idx (lg := lg) (ws := []) (j := 0) (k := a) hfl rfl
                    have hw : (sceneOf lg l []).want k i = (k.testBit i || (k.testBit (idxF l a) && self)) := by simp [Sc.want, hkd, ka, hself]
                    rw [hw] at ih4
                    apply hQ6
                    (((try simp (implicitDefEqProofs := false) [bitsL_get, hin, wa.1, wa.2]); (try simp (implicitDefEqProofs := false) (disch := first | assumption | (try simp only [lens]); omega -splitDisjunctions) [bitsL_get, hin, wa.1, wa.2])); all_goals try (repeat' ((first | ((with_reducible first | refine And.intro ?_ ?_ | refine Exists.intro ?_ ?_); first | omega | (simp <;> omega)) | (with_reducible refine spl (And.intro ?_ ?_) <;> intro _) | (refine CL.see (where1_ref l a) ?_ ?_ ?_; (focus (simp [scn]; done)); (focus (simp [flats]; done))) | (refine CD.see (where1_ref l a) ?_ ?_ ?_; (focus (simp [scn]; done)); (focus (simp [flats]; done)))) <;> ((try simp (implicitDefEqProofs := false) [bitsL_get, hin, wa.1, wa.2]); (try simp (implicitDefEqProofs := false) (disch := first | assumption | (try simp only [lens]); omega -splitDisjunctions) [bitsL_get, hin, wa.1, wa.2])))))
                    apply hQ6
                    clear hQ6 hQ4 hQ2 hQ
                    (((try simp (implicitDefEqProofs := false) [bitsL_get, hin]); (try simp (implicitDefEqProofs := false) (disch := first | assumption | (try simp only [lens]); omega -splitDisjunctions) [bitsL_get, hin])); all_goals try (repeat' ((first | ((with_reducible first | refine And.intro ?_ ?_ | refine Exists.intro ?_ ?_); first | omega | (simp <;> omega)) | (with_reducible refine spl (And.intro ?_ ?_) <;> intro _)) <;> ((try simp (implicitDefEqProofs := false) [bitsL_get, hin]); (try simp (implicitDefEqProofs := false) (disch := first | assumption | (try simp only [lens]); omega -splitDisjunctions) [bitsL_get, hin])))))
                    all_goals first | (simpa using ih4; done) | (revert ih4; simp_all; done) | (revert ih4; generalize k.testBit i = x; generalize k.testBit (idxF l a) = y; cases x <;> cases y <;> simp; done)
            simpa using main4 l.length 0 (by omega)
          | succ r ih2 =>
            intro i hi
            have hin : i < l.length := by omega
            have ih2 := ih2 (i + 1) (by omega)
            rw [partB_succ hin] at ih2
            have hs := shr_tmod k i (by omega) (by omega)
            apply hQ2
            (((try simp (implicitDefEqProofs := false) [hin, hs]); (try simp (implicitDefEqProofs := false) (disch := first | assumption | (try simp only [lens]); omega -splitDisjunctions) [hin, hs])); all_goals try (repeat' ((first | ((with_reducible first | refine And.intro ?_ ?_ | refine Exists.intro ?_ ?_); first | omega | (simp <;> omega)) | (with_reducible refine spl (And.intro ?_ ?_) <;> intro _)) <;> ((try simp (implicitDefEqProofs := false) [hin, hs]); (try simp (implicitDefEqProofs := false) (disch := first | assumption | (try simp only [lens]); omega -splitDisjunctions) [hin, hs])))))
            simpa [List.map_set] using ih2
        refine at2 (main2 _ 0 (Nat.zero_add _)) ?_ ?_ <;> simp [partB_zero]
    refine at2 (main _ 0 (Nat.zero_add _)) ?_ ?_ <;> simp
  refine op36 ?_
  (((try simp (implicitDefEqProofs := false) [hsh]); (try simp (implicitDefEqProofs := false) (disch := first | assumption | (try simp only [lens]); omega -splitDisjunctions) [hsh])); all_goals try (repeat' ((first | ((with_reducible first | refine And.intro ?_ ?_ | refine Exists.intro ?_ ?_); first | omega | (simp <;> omega)) | (with_reducible refine spl (And.intro ?_ ?_) <;> intro _)) <;> ((try simp (implicitDefEqProofs := false) [hsh]); (try simp (implicitDefEqProofs := false) (disch := first | assumption | (try simp only [lens]); omega -splitDisjunctions) [hsh])))))
  all_goals refine key _ ?_
  all_goals (unfold Sc.refl sceneOf; rw [Bool.eq_iff_iff]; simp; try omega)
end Go.Proofs.Ytliockncjdeloaa
