/-
  sequentref: ValidIn.
-/
import Derived.Test.YtliockncjdeloaaQRH
namespace Go.Proofs.Ytliockncjdeloaa
open Go Go.Pv
set_option linter.unusedVariables false
set_option linter.unusedSimpArgs false
set_option maxRecDepth 100000
set_option maxHeartbeats 4000000

def x37_L0 : XC := .seq (.seq (.reg [⟨some 5,.move (.tmp 4),none⟩,⟨some 6,.load 22 (.tmp 1),none⟩,⟨some 7,.call ⟨.builtin .len,#[.tmp 6],#[22]⟩,none⟩,⟨some 8,.binOp .lss 3 (.tmp 5) (.tmp 7) 3,none⟩]) (.cond (.tmp 8) (.skip) (.exit 0))) (.seq (.block 1 (.seq (.drawn 4 [⟨some 11,.load 22 (.tmp 1),none⟩,⟨some 12,.move (.tmp 4),none⟩,⟨some 13,.indexAddr 22 (.tmp 11) (.tmp 12),none⟩,⟨some 14,.load 24 (.tmp 13),none⟩,⟨some 15,.load 24 (.tmp 2),none⟩,⟨some 16,.call ⟨.value (.func 14),#[.tmp 14,.tmp 15],#[24,24]⟩,none⟩]) (.cond (.tmp 16) (.seq (.reg [⟨some 17,.move (.tmp 4),none⟩,⟨some 3,.assign (.tmp 17),none⟩]) (.ret)) (.skip)))) (.reg [⟨some 9,.move (.tmp 4),none⟩,⟨some 10,.binOp .add 3 (.tmp 9) (.const (.int .i64 1)) 3,none⟩,⟨some 4,.assign (.tmp 10),none⟩]))
def x37 : XC := .seq (.reg [⟨some 2,.box 24 (.tmp 0),none⟩,⟨some 3,.assign (.const (.int .i64 0)),none⟩]) (.seq (.seq (.reg [⟨some 4,.assign (.const (.int .i64 0)),none⟩]) (.bloop 0 x37_L0)) (.seq (.reg [⟨some 3,.assign (.const (.int .i64 (-1))),none⟩]) (.ret)))
@[simp] theorem x37_s {C : WC} {e : AE} {s : Store} {K : KS} : type_of% (@X_at C e s K _ _ x37_L0.eq_1) ∧ type_of% (@X_at C e s K _ _ x37.eq_1) := ⟨X_at x37_L0.eq_1, X_at x37.eq_1⟩
def an37 : Ann := ⟨[], [(0, [], [1, 2, 4], [3])], []⟩
def cx37 (P : Program) (m : Nat) : WC := ⟨P, m, an37⟩
@[simp] theorem cx37_a {P : Program} {m : Nat} : (cx37 P m).P = P ∧ (cx37 P m).m = m ∧ (cx37 P m).A.clsOf 4 = .draw ∧ (cx37 P m).A.frzOf 4 = [] ∧ (cx37 P m).A.loopOf 0 = ([], [1, 2, 4], [3]) := ⟨rfl, rfl, rfl, rfl, rfl⟩
instance {P : Program} {m f : Nat} [h : EnT P f] : EnT (cx37 P m).P f := h
theorem chk37 : ∀ c, Try.f37.body = some c → chkC Try.f37.ntmps an37 c = true := by intro c h; obtain rfl := Option.some.inj h; decide +kernel
theorem op37 {args : List PV} {v : PV} (h : X (cx37 Try.prog 0) x37 (argsA 0 args) [] (.fin [.tmp 3] fun v1 s1 => deref s1 6 v1 = v)) (hl : args.length ≤ Try.f37.ntmps := by rw [Try.ntmps37]; simp) : CallOK Try.prog 37 args [] v [] :=
  callX (m := 0) (cx37 Try.prog 0) x37 rfl rfl (by kernel_rfl) Try.func37 rfl rfl hl mixed (chk37 _ rfl) (by rw [Try.results37]; exact h)

theorem where2_ref (l : List Fm) (f : Fm) : CallOK Try.prog 37 [.agg (frm f), .iptr [.list (l.map frm)]] [] (.int .i64 (whereI l f)) [] := by
  refine op37 ?_
  (((try simp (implicitDefEqProofs := false)); (try simp (implicitDefEqProofs := false) (disch := first | assumption | (try simp only [lens]); omega -splitDisjunctions))); all_goals try (repeat' ((first | ((with_reducible first | refine And.intro ?_ ?_ | refine Exists.intro ?_ ?_); first | omega | (simp <;> omega)) | (with_reducible refine spl (And.intro ?_ ?_) <;> intro _)) <;> ((try simp (implicitDefEqProofs := false)); (try simp (implicitDefEqProofs := false) (disch := first | assumption | (try simp only [lens]); omega -splitDisjunctions))))))
  refine W_of fun Q hQ => ?_
  have main : ∀ n i, i + n = l.length → (∀ j (h : j < l.length), j < i → sameB l[j] f = false) → Q [(1, .iptr [.list (l.map frm)]), (2, .ptr 0 0 0), (4, .int .i64 (i : Int))] [.rows 3 [frm f]] := by
    intro n
    induction n with
    | zero =>
      intro i hi hl
      have hno : whereI l f = -1 := by
        unfold whereI indexF
        rw [List.findIdx?_eq_none_iff.2]
        intro x hx
        obtain ⟨j, hj, rfl⟩ := List.mem_iff_getElem.1 hx
        exact hl j hj (by omega)
      apply hQ
      (((try simp (implicitDefEqProofs := false)); (try simp (implicitDefEqProofs := false) (disch := first | assumption | (try simp only [lens]); omega -splitDisjunctions))); all_goals try (repeat' ((first | ((with_reducible first | refine And.intro ?_ ?_ | refine Exists.intro ?_ ?_); first | omega | (simp <;> omega)) | (with_reducible refine spl (And.intro ?_ ?_) <;> intro _)) <;> ((try simp (implicitDefEqProofs := false)); (try simp (implicitDefEqProofs := false) (disch := first | assumption | (try simp only [lens]); omega -splitDisjunctions))))))
      all_goals simp [hno]
    | succ n ih =>
      intro i hi hl
      have hlt : i < l.length := by omega
      by_cases hb : sameB l[i] f = true
      · have hyes : whereI l f = i := indexF_at hlt hb (fun j hj => hl j (by omega) hj)
        apply hQ
        (((try simp (implicitDefEqProofs := false) [hb]); (try simp (implicitDefEqProofs := false) (disch := first | assumption | (try simp only [lens]); omega -splitDisjunctions) [hb])); all_goals try (repeat' ((first | ((with_reducible first | refine And.intro ?_ ?_ | refine Exists.intro ?_ ?_); first | omega | (simp <;> omega)) | (with_reducible refine spl (And.intro ?_ ?_) <;> intro _) | (refine CL.clo (Same_ref _ _) ?_) | (refine CM.clo (Same_ref _ _) ?_) | (refine CD.clo (Same_ref _ _) ?_)) <;> ((try simp (implicitDefEqProofs := false) [hb]); (try simp (implicitDefEqProofs := false) (disch := first | assumption | (try simp only [lens]); omega -splitDisjunctions) [hb])))))
        all_goals simp [hyes]
      · have hb : sameB l[i] f = false := by simpa using hb
        have ih := ih (i + 1) (by omega) (fun j hj hji => by
          by_cases e : j = i
          · subst e; exact hb
          · exact hl j hj (by omega))
        apply hQ
        (((try simp (implicitDefEqProofs := false) [hb]); (try simp (implicitDefEqProofs := false) (disch := first | assumption | (try simp only [lens]); omega -splitDisjunctions) [hb])); all_goals try (repeat' ((first | ((with_reducible first | refine And.intro ?_ ?_ | refine Exists.intro ?_ ?_); first | omega | (simp <;> omega)) | (with_reducible refine spl (And.intro ?_ ?_) <;> intro _) | (refine CL.clo (Same_ref _ _) ?_) | (refine CM.clo (Same_ref _ _) ?_) | (refine CD.clo (Same_ref _ _) ?_)) <;> ((try simp (implicitDefEqProofs := false) [hb]); (try simp (implicitDefEqProofs := false) (disch := first | assumption | (try simp only [lens]); omega -splitDisjunctions) [hb])))))
        all_goals simpa using ih
  refine at2 (main _ 0 (Nat.zero_add _) (fun j h hj => by omega)) ?_ ?_ <;> simp
theorem modal_kid {g : Fm} (h2 : OkF (fun n => isNameB n = true) g) (hk : g.kind = 8 ∨ g.kind = 9) : ∃ a, g.kids = [a] := by
  rcases hk with hk | hk <;> rcases h2.nine with ⟨nm, hn, e⟩ | ⟨nm, e⟩ | ⟨nm, e⟩ | ⟨nm, a, ha, e⟩ | ⟨nm, a, b, ha, hb, e⟩ | ⟨nm, a, b, ha, hb, e⟩ | ⟨nm, a, b, ha, hb, e⟩ | ⟨nm, a, ha, e⟩ | ⟨nm, a, ha, e⟩ <;> rw [e] at hk <;> simp at hk <;> exact ⟨a, by rw [e]; rfl⟩
/-- is there one that it must see for a box that is not true, a diamond that is? -/
noncomputable def metP (lg : Nat) (l : List Fm) (x i y : Nat) : Bool := mayB lg l x y && ((y.testBit (inP l i) != decide (kdP l i = 8)) && (decide (lg ≠ 8) || demB l y i))
theorem whole_eq (lg : Nat) (l : List Fm) (ws : List Nat) (x : Nat) : (sceneOf lg l ws).whole x = ((decide (lg ≠ 2) || ws.any (mayB lg l x)) && (modL l l.length).all fun i => demB l x i || ws.any (metP lg l x i)) := by
  have h1 : (sceneOf lg l ws).some x (sceneOf lg l ws).worlds.length = (decide (lg ≠ 2) || ws.any (mayB lg l x)) := by
    unfold Sc.some
    have : (sceneOf lg l ws).sees x = mayB lg l x := by funext y; rw [mayB_sees lg l ws]
    rw [this, List.take_length]
    show (!decide (lg = 2) || ws.any (mayB lg l x)) = _
    simp
  have h2 : (sceneOf lg l ws).allFine x = (modL l l.length).all fun i => demB l x i || ws.any (metP lg l x i) := by
    rw [Bool.eq_iff_iff]
    unfold Sc.allFine
    rw [List.all_eq_true, List.all_eq_true]
    have key : ∀ i, i < l.length → ((sceneOf lg l ws).fine x i = true ↔ ((kdP l i = 8 ∨ kdP l i = 9) → (demB l x i || ws.any (metP lg l x i)) = true)) := by
      intro i hi
      have hkd : (sceneOf lg l ws).kind i = kdP l i := rfl
      unfold Sc.fine Sc.needs
      rw [hkd]
      by_cases hk : kdP l i = 8 ∨ kdP l i = 9
      · have hm : (sceneOf lg l ws).shows x i (decide (kdP l i = 9)) = metP lg l x i := by
          funext y
          unfold Sc.shows metP
          rw [mayB_sees lg l ws]
          have hkid : (sceneOf lg l ws).kid i 0 = inP l i := rfl
          have hlg : (sceneOf lg l ws).lg = lg := rfl
          rw [hkid, hlg]
          unfold demB
          rcases hk with h | h <;> rw [h] <;> cases (sceneOf lg l ws).sees x y <;> cases y.testBit (inP l i) <;> cases y.testBit i <;> simp
        rw [hm]
        have hw : (sceneOf lg l ws).worlds = ws := rfl
        rw [hw]
        unfold demB
        generalize ws.any (metP lg l x i) = A
        rcases hk with h | h <;> rw [h] <;> cases x.testBit i <;> cases A <;> simp
      · simp only [not_or] at hk
        simp [hk.1, hk.2]
    constructor
    · intro h i hi
      obtain ⟨hi, hk⟩ := mem_modL.1 hi
      exact (key i hi).1 (h i (List.mem_range.2 hi)) hk
    · intro h i hi
      have hi : i < l.length := List.mem_range.1 hi
      exact (key i hi).2 fun hk => h i (mem_modL.2 ⟨hi, hk⟩)
  unfold Sc.whole
  rw [h1, h2]
noncomputable def metL (lg : Nat) (l : List Fm) (ms : List Nat) (x : Nat) (ws : List Nat) : List Bool := ms.map fun i => ws.any (metP lg l x i)
@[simp] theorem metL_length {lg : Nat} {l : List Fm} {ms : List Nat} {x : Nat} {ws : List Nat} : (metL lg l ms x ws).length = ms.length := by simp [metL]
theorem metL_get {lg : Nat} {l : List Fm} {ms : List Nat} {x j : Nat} {ws : List Nat} (h : j < (metL lg l ms x ws).length) : (metL lg l ms x ws)[j] = ws.any (metP lg l x (ms[j]'(by simpa using h))) := by simp [metL]
/-- the first so many of one list, the rest of another -/
def mixL (A B : List Bool) (j : Nat) : List Bool := A.take j ++ B.drop j
theorem mixL_length {A B : List Bool} {j : Nat} (h : A.length = B.length) (hj : j ≤ A.length) : (mixL A B j).length = A.length := by
  unfold mixL; rw [List.length_append, List.length_take, List.length_drop]; omega
theorem mixL_all {A B : List Bool} {j : Nat} (h : A.length = B.length) (hj : j = A.length) : mixL A B j = A := by
  unfold mixL; rw [List.take_of_length_le (by omega), List.drop_of_length_le (by omega), List.append_nil]
theorem mixL_set {A B : List Bool} {j : Nat} {v w : Bool} (hA : A[j]? = some (w || v)) (hB : B[j]? = some w) : v = true → ((mixL A B j).map boolRow).set j [.bool true] = (mixL A B (j + 1)).map boolRow := by
  rintro rfl
  obtain ⟨h1, h2⟩ := List.getElem?_eq_some_iff.1 hA
  obtain ⟨h3, h4⟩ := List.getElem?_eq_some_iff.1 hB
  rw [show [PV.bool true] = boolRow true from rfl, ← List.map_set]
  congr 1
  unfold mixL
  rw [List.set_append_right _ _ (by simp; omega), List.length_take, Nat.min_eq_left (by omega), Nat.sub_self, List.drop_eq_getElem_cons h3, List.set_cons_zero, List.take_add_one, hA]
  simp
theorem mixL_skip {A B : List Bool} {j : Nat} {v w : Bool} (hA : A[j]? = some (w || v)) (hB : B[j]? = some w) : v = false → (mixL A B j).map boolRow = (mixL A B (j + 1)).map boolRow := by
  rintro rfl
  obtain ⟨h3, h4⟩ := List.getElem?_eq_some_iff.1 hB
  congr 1
  unfold mixL
  rw [List.drop_eq_getElem_cons h3, List.take_add_one, hA, h4]
  simp
def x16_L12 : XC := .seq (.seq (.reg [⟨some 174,.move (.tmp 21),none⟩,⟨some 175,.move (.tmp 6),none⟩,⟨some 176,.call ⟨.builtin .len,#[.tmp 175],#[69]⟩,none⟩,⟨some 177,.binOp .lss 3 (.tmp 174) (.tmp 176) 3,none⟩]) (.cond (.tmp 177) (.skip) (.exit 12))) (.seq (.block 13 (.seq (.reg [⟨some 180,.move (.tmp 6),none⟩,⟨some 181,.move (.tmp 21),none⟩,⟨some 182,.indexAddr 69 (.tmp 180) (.tmp 181),none⟩,⟨some 183,.load 43 (.tmp 182),none⟩,⟨some 184,.indexAddr 43 (.tmp 183) (.const (.int .i64 0)),none⟩,⟨some 185,.load 4 (.tmp 184),none⟩,⟨some 186,.unOp .not 4 (.tmp 185),none⟩]) (.cond (.tmp 186) (.seq (.reg [⟨some 4,.assign (.const (.bool false)),none⟩]) (.ret)) (.skip)))) (.reg [⟨some 178,.move (.tmp 21),none⟩,⟨some 179,.binOp .add 3 (.tmp 178) (.const (.int .i64 1)) 3,none⟩,⟨some 21,.assign (.tmp 179),none⟩]))
def x16_T10 : XC := .seq (.seq (.reg [⟨some 21,.assign (.const (.int .i64 0)),none⟩]) (.bloop 12 x16_L12)) (.seq (.reg [⟨some 4,.assign (.const (.bool true)),none⟩]) (.ret))
def x16_T9 : XC := .seq (.seq (.reg [⟨some 168,.move (.tmp 13),none⟩,⟨some 169,.call ⟨.builtin .len,#[.tmp 168],#[69]⟩,none⟩,⟨some 170,.move (.tmp 6),none⟩,⟨some 171,.call ⟨.builtin .len,#[.tmp 170],#[69]⟩,none⟩,⟨some 172,.binOp .eql 3 (.tmp 169) (.tmp 171) 3,none⟩]) (.cond (.tmp 172) (.exit 2) (.skip))) (.reg [⟨some 173,.move (.tmp 13),none⟩,⟨some 6,.assign (.tmp 173),none⟩])
def x16_T8 : XC := .seq (.reg [⟨some 160,.move (.tmp 16),none⟩]) (.cond (.tmp 160) (.reg [⟨some 161,.move (.tmp 13),none⟩,⟨some 162,.move (.tmp 6),none⟩,⟨some 163,.move (.tmp 14),none⟩,⟨some 164,.indexAddr 69 (.tmp 162) (.tmp 163),none⟩,⟨some 165,.load 43 (.tmp 164),none⟩,⟨some 166,.buildSlice 69 1 #[(0,.tmp 165)],none⟩,⟨some 167,.call ⟨.builtin .append,#[.tmp 161,.tmp 166],#[69,69]⟩,none⟩,⟨some 13,.assign (.tmp 167),none⟩]) (.skip))
def x16_L10 : XC := .seq (.seq (.reg [⟨some 138,.move (.tmp 20),none⟩,⟨some 139,.load 59 (.tmp 8),none⟩,⟨some 140,.call ⟨.builtin .len,#[.tmp 139],#[59]⟩,none⟩,⟨some 141,.binOp .lss 3 (.tmp 138) (.tmp 140) 3,none⟩]) (.cond (.tmp 141) (.skip) (.exit 10))) (.seq (.block 11 (.drawn 33 [⟨some 144,.move (.tmp 16),none⟩,⟨some 145,.move (.tmp 144),none⟩,⟨some 146,.load 72 (.tmp 11),some (some 145,true)⟩,⟨some 147,.move (.tmp 6),some (some 145,true)⟩,⟨some 148,.move (.tmp 14),some (some 145,true)⟩,⟨some 149,.indexAddr 69 (.tmp 147) (.tmp 148),some (some 145,true)⟩,⟨some 150,.load 43 (.tmp 149),some (some 145,true)⟩,⟨some 151,.move (.tmp 20),some (some 145,true)⟩,⟨some 152,.call ⟨.value (.tmp 146),#[.tmp 150,.tmp 151],#[43,3]⟩,some (some 145,true)⟩,⟨some 153,.move (.tmp 152),some (some 145,true)⟩,⟨some 154,.move (.tmp 15),some (some 153,false)⟩,⟨some 155,.move (.tmp 20),some (some 153,false)⟩,⟨some 156,.indexAddr 43 (.tmp 154) (.tmp 155),some (some 153,false)⟩,⟨some 157,.load 4 (.tmp 156),some (some 153,false)⟩,⟨some 158,.pick (.tmp 153) (.const (.bool true)) (.tmp 157),some (some 145,true)⟩,⟨some 159,.pick (.tmp 145) (.tmp 158) (.const (.bool false)),none⟩,⟨some 16,.assign (.tmp 159),none⟩])) (.reg [⟨some 142,.move (.tmp 20),none⟩,⟨some 143,.binOp .add 3 (.tmp 142) (.const (.int .i64 1)) 3,none⟩,⟨some 20,.assign (.tmp 143),none⟩]))
def x16_T6 : XC := .seq (.seq (.reg [⟨some 20,.assign (.const (.int .i64 0)),none⟩]) (.bloop 10 x16_L10)) (x16_T8)
def x16_L8 : XC := .seq (.seq (.reg [⟨some 95,.move (.tmp 18),none⟩,⟨some 96,.load 59 (.tmp 8),none⟩,⟨some 97,.call ⟨.builtin .len,#[.tmp 96],#[59]⟩,none⟩,⟨some 98,.binOp .lss 3 (.tmp 95) (.tmp 97) 3,none⟩]) (.cond (.tmp 98) (.skip) (.exit 8))) (.seq (.block 9 (.seq (.drawn 27 [⟨some 101,.load 22 (.tmp 5),none⟩,⟨some 102,.load 59 (.tmp 8),none⟩,⟨some 103,.move (.tmp 18),none⟩,⟨some 104,.indexAddr 59 (.tmp 102) (.tmp 103),none⟩,⟨some 105,.load 3 (.tmp 104),none⟩,⟨some 106,.indexAddr 22 (.tmp 101) (.tmp 105),none⟩,⟨some 107,.fieldAddr 24 (.tmp 106) 0,none⟩,⟨some 108,.load 3 (.tmp 107),none⟩,⟨some 109,.binOp .eql 3 (.tmp 108) (.const (.int .i64 8)) 3,none⟩,⟨some 19,.assign (.tmp 109),none⟩]) (.seq (.drawn 28 [⟨some 110,.move (.tmp 6),none⟩,⟨some 111,.move (.tmp 17),none⟩,⟨some 112,.indexAddr 69 (.tmp 110) (.tmp 111),none⟩,⟨some 113,.load 43 (.tmp 112),none⟩,⟨some 114,.load 59 (.tmp 9),none⟩,⟨some 115,.move (.tmp 18),none⟩,⟨some 116,.indexAddr 59 (.tmp 114) (.tmp 115),none⟩,⟨some 117,.load 3 (.tmp 116),none⟩,⟨some 118,.indexAddr 43 (.tmp 113) (.tmp 117),none⟩,⟨some 119,.load 4 (.tmp 118),none⟩,⟨some 120,.move (.tmp 19),none⟩,⟨some 121,.binOp .neq 4 (.tmp 119) (.tmp 120) 4,none⟩,⟨some 122,.move (.tmp 121),none⟩,⟨some 123,.load 3 (.tmp 2),some (some 122,true)⟩,⟨some 124,.binOp .neq 3 (.tmp 123) (.const (.int .i64 8)) 3,some (some 122,true)⟩,⟨some 125,.move (.tmp 124),some (some 122,true)⟩,⟨some 126,.load 72 (.tmp 11),some (some 125,false)⟩,⟨some 127,.move (.tmp 6),some (some 125,false)⟩,⟨some 128,.move (.tmp 17),some (some 125,false)⟩,⟨some 129,.indexAddr 69 (.tmp 127) (.tmp 128),some (some 125,false)⟩,⟨some 130,.load 43 (.tmp 129),some (some 125,false)⟩,⟨some 131,.move (.tmp 18),some (some 125,false)⟩,⟨some 132,.call ⟨.value (.tmp 126),#[.tmp 130,.tmp 131],#[43,3]⟩,some (some 125,false)⟩,⟨some 133,.pick (.tmp 125) (.const (.bool true)) (.tmp 132),some (some 122,true)⟩,⟨some 134,.pick (.tmp 122) (.tmp 133) (.const (.bool false)),none⟩]) (.cond (.tmp 134) (.reg [⟨some 135,.move (.tmp 15),none⟩,⟨some 136,.move (.tmp 18),none⟩,⟨some 137,.indexAddr 43 (.tmp 135) (.tmp 136),none⟩,⟨none,.store 4 (.tmp 137) (.const (.bool true)),none⟩]) (.skip))))) (.reg [⟨some 99,.move (.tmp 18),none⟩,⟨some 100,.binOp .add 3 (.tmp 99) (.const (.int .i64 1)) 3,none⟩,⟨some 18,.assign (.tmp 100),none⟩]))
def x16_L6 : XC := .seq (.seq (.reg [⟨some 78,.move (.tmp 17),none⟩,⟨some 79,.move (.tmp 6),none⟩,⟨some 80,.call ⟨.builtin .len,#[.tmp 79],#[69]⟩,none⟩,⟨some 81,.binOp .lss 3 (.tmp 78) (.tmp 80) 3,none⟩]) (.cond (.tmp 81) (.skip) (.exit 6))) (.seq (.block 7 (.seq (.seq (.drawn 22 [⟨some 84,.move (.tmp 12),none⟩,⟨some 85,.move (.tmp 6),none⟩,⟨some 86,.move (.tmp 14),none⟩,⟨some 87,.indexAddr 69 (.tmp 85) (.tmp 86),none⟩,⟨some 88,.load 43 (.tmp 87),none⟩,⟨some 89,.move (.tmp 6),none⟩,⟨some 90,.move (.tmp 17),none⟩,⟨some 91,.indexAddr 69 (.tmp 89) (.tmp 90),none⟩,⟨some 92,.load 43 (.tmp 91),none⟩,⟨some 93,.call ⟨.value (.tmp 84),#[.tmp 88,.tmp 92],#[43,43]⟩,none⟩,⟨some 94,.unOp .not 4 (.tmp 93),none⟩]) (.cond (.tmp 94) (.exit 7) (.skip))) (.seq (.reg [⟨some 16,.assign (.const (.bool true)),none⟩]) (.seq (.reg [⟨some 18,.assign (.const (.int .i64 0)),none⟩]) (.bloop 8 x16_L8))))) (.reg [⟨some 82,.move (.tmp 17),none⟩,⟨some 83,.binOp .add 3 (.tmp 82) (.const (.int .i64 1)) 3,none⟩,⟨some 17,.assign (.tmp 83),none⟩]))
def x16_L4 : XC := .seq (.seq (.reg [⟨some 67,.move (.tmp 14),none⟩,⟨some 68,.move (.tmp 6),none⟩,⟨some 69,.call ⟨.builtin .len,#[.tmp 68],#[69]⟩,none⟩,⟨some 70,.binOp .lss 3 (.tmp 67) (.tmp 69) 3,none⟩]) (.cond (.tmp 70) (.skip) (.exit 4))) (.seq (.block 5 (.seq (.reg [⟨some 73,.load 59 (.tmp 8),none⟩,⟨some 74,.call ⟨.builtin .len,#[.tmp 73],#[59]⟩,none⟩,⟨some 75,.makeSlice 43 (.tmp 74) (.tmp 74),none⟩,⟨some 15,.assign (.tmp 75),none⟩]) (.seq (.reg [⟨some 76,.load 3 (.tmp 2),none⟩,⟨some 77,.binOp .neq 3 (.tmp 76) (.const (.int .i64 2)) 3,none⟩,⟨some 16,.assign (.tmp 77),none⟩]) (.seq (.seq (.reg [⟨some 17,.assign (.const (.int .i64 0)),none⟩]) (.bloop 6 x16_L6)) (x16_T6))))) (.reg [⟨some 71,.move (.tmp 14),none⟩,⟨some 72,.binOp .add 3 (.tmp 71) (.const (.int .i64 1)) 3,none⟩,⟨some 14,.assign (.tmp 72),none⟩]))
def x16_L2 : XC := .block 3 (.seq (.reg [⟨some 13,.assign (.const (.slice none 0 0)),none⟩]) (.seq (.seq (.reg [⟨some 14,.assign (.const (.int .i64 0)),none⟩]) (.bloop 4 x16_L4)) (x16_T9)))
def x16_T1 : XC := .seq (.reg [⟨some 65,.makeFunc (.func 38) #[] #[.tmp 8,.tmp 5],none⟩,⟨some 11,.alloc 72,none⟩,⟨none,.store 72 (.tmp 11) (.tmp 65),none⟩]) (.seq (.reg [⟨some 66,.makeFunc (.func 39) #[] #[.tmp 8,.tmp 5,.tmp 11,.tmp 9,.tmp 2],none⟩,⟨some 12,.assign (.tmp 66),none⟩]) (.seq (.bloop 2 x16_L2) (x16_T10)))
def x16_L0 : XC := .seq (.seq (.reg [⟨some 29,.move (.tmp 10),none⟩,⟨some 30,.load 22 (.tmp 5),none⟩,⟨some 31,.call ⟨.builtin .len,#[.tmp 30],#[22]⟩,none⟩,⟨some 32,.binOp .lss 3 (.tmp 29) (.tmp 31) 3,none⟩]) (.cond (.tmp 32) (.skip) (.exit 0))) (.seq (.block 1 (.seq (.reg [⟨some 35,.load 22 (.tmp 5),none⟩,⟨some 36,.move (.tmp 10),none⟩,⟨some 37,.indexAddr 22 (.tmp 35) (.tmp 36),none⟩,⟨some 38,.fieldAddr 24 (.tmp 37) 0,none⟩,⟨some 39,.load 3 (.tmp 38),none⟩,⟨some 40,.binOp .eql 3 (.tmp 39) (.const (.int .i64 8)) 3,none⟩,⟨some 41,.move (.tmp 40),none⟩,⟨some 42,.load 22 (.tmp 5),some (some 41,false)⟩,⟨some 43,.move (.tmp 10),some (some 41,false)⟩,⟨some 44,.indexAddr 22 (.tmp 42) (.tmp 43),some (some 41,false)⟩,⟨some 45,.fieldAddr 24 (.tmp 44) 0,some (some 41,false)⟩,⟨some 46,.load 3 (.tmp 45),some (some 41,false)⟩,⟨some 47,.binOp .eql 3 (.tmp 46) (.const (.int .i64 9)) 3,some (some 41,false)⟩,⟨some 48,.pick (.tmp 41) (.const (.bool true)) (.tmp 47),none⟩]) (.cond (.tmp 48) (.seq (.reg [⟨some 49,.load 59 (.tmp 8),none⟩,⟨some 50,.move (.tmp 10),none⟩,⟨some 51,.buildSlice 59 1 #[(0,.tmp 50)],none⟩,⟨some 52,.call ⟨.builtin .append,#[.tmp 49,.tmp 51],#[59,59]⟩,none⟩,⟨none,.store 59 (.tmp 8) (.tmp 52),none⟩]) (.drawn 10 [⟨some 53,.load 59 (.tmp 9),none⟩,⟨some 54,.move (.tmp 7),none⟩,⟨some 55,.load 22 (.tmp 5),none⟩,⟨some 56,.move (.tmp 10),none⟩,⟨some 57,.indexAddr 22 (.tmp 55) (.tmp 56),none⟩,⟨some 58,.fieldAddr 24 (.tmp 57) 2,none⟩,⟨some 59,.load 22 (.tmp 58),none⟩,⟨some 60,.indexAddr 22 (.tmp 59) (.const (.int .i64 0)),none⟩,⟨some 61,.load 24 (.tmp 60),none⟩,⟨some 62,.call ⟨.value (.tmp 54),#[.tmp 61],#[24]⟩,none⟩,⟨some 63,.buildSlice 59 1 #[(0,.tmp 62)],none⟩,⟨some 64,.call ⟨.builtin .append,#[.tmp 53,.tmp 63],#[59,59]⟩,none⟩,⟨none,.store 59 (.tmp 9) (.tmp 64),none⟩])) (.skip)))) (.reg [⟨some 33,.move (.tmp 10),none⟩,⟨some 34,.binOp .add 3 (.tmp 33) (.const (.int .i64 1)) 3,none⟩,⟨some 10,.assign (.tmp 34),none⟩]))
def x16 : XC := .seq (.reg [⟨some 2,.box 3 (.tmp 0),none⟩,⟨some 3,.box 24 (.tmp 1),none⟩,⟨some 4,.assign (.const (.bool false)),none⟩]) (.seq (.reg [⟨some 22,.load 24 (.tmp 3),none⟩,⟨some 23,.buildSlice 22 1 #[(0,.tmp 22)],none⟩,⟨some 24,.call ⟨.value (.func 13),#[.tmp 23],#[22]⟩,none⟩,⟨some 5,.alloc 22,none⟩,⟨none,.store 22 (.tmp 5) (.tmp 24),none⟩]) (.seq (.reg [⟨some 25,.load 22 (.tmp 5),none⟩,⟨some 26,.load 3 (.tmp 2),none⟩,⟨some 27,.call ⟨.value (.func 36),#[.tmp 25,.tmp 26],#[22,3]⟩,none⟩,⟨some 6,.assign (.tmp 27),none⟩]) (.seq (.reg [⟨some 28,.makeFunc (.func 37) #[] #[.tmp 5],none⟩,⟨some 7,.assign (.tmp 28),none⟩]) (.seq (.reg [⟨some 8,.alloc 59,none⟩,⟨some 9,.alloc 59,none⟩]) (.seq (.seq (.reg [⟨some 10,.assign (.const (.int .i64 0)),none⟩]) (.bloop 0 x16_L0)) (x16_T1))))))
@[simp] theorem x16_s {C : WC} {e : AE} {s : Store} {K : KS} : type_of% (@X_at C e s K _ _ x16_L12.eq_1) ∧ type_of% (@X_at C e s K _ _ x16_T10.eq_1) ∧ type_of% (@X_at C e s K _ _ x16_T9.eq_1) ∧ type_of% (@X_at C e s K _ _ x16_T8.eq_1) ∧ type_of% (@X_at C e s K _ _ x16_L10.eq_1) ∧ type_of% (@X_at C e s K _ _ x16_T6.eq_1) ∧ type_of% (@X_at C e s K _ _ x16_L8.eq_1) ∧ type_of% (@X_at C e s K _ _ x16_L6.eq_1) ∧ type_of% (@X_at C e s K _ _ x16_L4.eq_1) ∧ type_of% (@X_at C e s K _ _ x16_L2.eq_1) ∧ type_of% (@X_at C e s K _ _ x16_T1.eq_1) ∧ type_of% (@X_at C e s K _ _ x16_L0.eq_1) ∧ type_of% (@X_at C e s K _ _ x16.eq_1) := ⟨X_at x16_L12.eq_1, X_at x16_T10.eq_1, X_at x16_T9.eq_1, X_at x16_T8.eq_1, X_at x16_L10.eq_1, X_at x16_T6.eq_1, X_at x16_L8.eq_1, X_at x16_L6.eq_1, X_at x16_L4.eq_1, X_at x16_L2.eq_1, X_at x16_T1.eq_1, X_at x16_L0.eq_1, X_at x16.eq_1⟩
def an16 : Ann := ⟨[(10, .mix 11), (22, .mix 9), (28, .mix 22), (33, .mix 12)], [(12, [], [6, 21], [4]), (10, [], [2, 5, 6, 8, 9, 11, 12, 13, 14, 15, 16, 20], [2, 5, 6, 8, 9, 11, 12, 13, 14, 16]), (8, [], [2, 5, 6, 8, 9, 11, 12, 13, 14, 15, 16, 17, 18], [2, 5, 6, 8, 9, 11, 12, 13, 14, 15, 16, 17]), (6, [], [2, 5, 6, 8, 9, 11, 12, 13, 14, 15, 16, 17], [2, 5, 6, 8, 9, 11, 12, 13, 14, 15, 16]), (4, [(13, none, 1)], [2, 5, 6, 8, 9, 11, 12, 13, 14], [2, 5, 6, 8, 9, 11, 12, 13]), (2, [(6, some 5000, 0)], [2, 5, 6, 8, 9, 11, 12], [6]), (0, [(8, some 0, 1), (9, some 0, 1)], [2, 5, 6, 7, 8, 9, 10], [2, 5, 6, 8, 9])], []⟩
def cx16 (P : Program) (m : Nat) : WC := ⟨P, m, an16⟩
@[simp] theorem cx16_a {P : Program} {m : Nat} : (cx16 P m).P = P ∧ (cx16 P m).m = m ∧ (cx16 P m).A.clsOf 10 = .mix 11 ∧ (cx16 P m).A.clsOf 22 = .mix 9 ∧ (cx16 P m).A.clsOf 27 = .draw ∧ (cx16 P m).A.clsOf 28 = .mix 22 ∧ (cx16 P m).A.clsOf 33 = .mix 12 ∧ (cx16 P m).A.frzOf 10 = [] ∧ (cx16 P m).A.frzOf 22 = [] ∧ (cx16 P m).A.frzOf 27 = [] ∧ (cx16 P m).A.frzOf 28 = [] ∧ (cx16 P m).A.frzOf 33 = [] ∧ (cx16 P m).A.loopOf 12 = ([], [6, 21], [4]) ∧ (cx16 P m).A.loopOf 10 = ([], [2, 5, 6, 8, 9, 11, 12, 13, 14, 15, 16, 20], [2, 5, 6, 8, 9, 11, 12, 13, 14, 16]) ∧ (cx16 P m).A.loopOf 8 = ([], [2, 5, 6, 8, 9, 11, 12, 13, 14, 15, 16, 17, 18], [2, 5, 6, 8, 9, 11, 12, 13, 14, 15, 16, 17]) ∧ (cx16 P m).A.loopOf 6 = ([], [2, 5, 6, 8, 9, 11, 12, 13, 14, 15, 16, 17], [2, 5, 6, 8, 9, 11, 12, 13, 14, 15, 16]) ∧ (cx16 P m).A.loopOf 4 = ([(13, none, 1)], [2, 5, 6, 8, 9, 11, 12, 13, 14], [2, 5, 6, 8, 9, 11, 12, 13]) ∧ (cx16 P m).A.loopOf 2 = ([(6, some 5000, 0)], [2, 5, 6, 8, 9, 11, 12], [6]) ∧ (cx16 P m).A.loopOf 0 = ([(8, some 0, 1), (9, some 0, 1)], [2, 5, 6, 7, 8, 9, 10], [2, 5, 6, 8, 9]) := ⟨rfl, rfl, rfl, rfl, rfl, rfl, rfl, rfl, rfl, rfl, rfl, rfl, rfl, rfl, rfl, rfl, rfl, rfl, rfl⟩
instance {P : Program} {m f : Nat} [h : EnT P f] : EnT (cx16 P m).P f := h
theorem chk16 : ∀ c, Try.f16.body = some c → chkC Try.f16.ntmps an16 c = true := by intro c h; obtain rfl := Option.some.inj h; decide +kernel
theorem op16 {args : List PV} {v : PV} (h : X (cx16 Try.prog 0) x16 (argsA 0 args) [] (.fin [.tmp 4] fun v1 s1 => deref s1 6 v1 = v)) (hl : args.length ≤ Try.f16.ntmps := by rw [Try.ntmps16]; simp) : CallOK Try.prog 16 args [] v [] :=
  callX (m := 0) (cx16 Try.prog 0) x16 rfl rfl (by kernel_rfl) Try.func16 rfl rfl hl mixed (chk16 _ rfl) (by rw [Try.results16]; exact h)

theorem ValidIn_ref (lg : Nat) (f : Fm) (hf : Td f) (hl : (pre f).length ≤ 200) (hp : (partsS [] (pre f)).length ≤ 10) (h1 : 1 ≤ lg) (h8 : lg ≤ 8) :
    CallOK Try.prog 16 [.int .i64 (lg : Int), .agg (frm f)] [] (.bool (decided lg f)) [] := by
  have hpi := PartsIn_ref f hf hl
  have hty := typesOf_ref (partsS [] (pre f)) lg hp (fun g hg => td_ok ((parts_all hf).td g hg)) (parts_all hf).kid h8
  have P := parts_all hf
  have hl0 : 0 < (partsS [] (pre f)).length := by
    obtain ⟨r, hr⟩ := partsS_head f
    rw [hr]; simp
  have hok : ∀ g ∈ partsS [] (pre f), OkF (fun n => isNameB n = true) g := fun g hg => td_ok (P.td g hg)
  have hkid := P.kid
  have hdec : decided lg f = all0 (lastW lg f) := by
    rw [Bool.eq_iff_iff, decided_iff, all0, List.all_eq_true]
  rw [hdec]
  unfold lastW
  generalize hL : partsS [] (pre f) = l at hpi hty hp hok hkid hl0 ⊢
  generalize hR : elim lg l (2 ^ l.length) ((List.range (2 ^ l.length)).filter (sceneOf lg l []).locl) = R
  have hinP : ∀ i ∈ modL l l.length, inP l i < l.length := by
    intro i hi
    obtain ⟨h1, h2⟩ := mem_modL.1 hi
    rw [kdP_at h1] at h2
    have hmem := List.getElem_mem h1
    obtain ⟨a, ha⟩ : ∃ a, l[i].kids = [a] := modal_kid (hok _ hmem) h2
    have hk := hkid _ hmem a (by rw [ha]; simp)
    have : inP l i = idxF l a := kid_idx (List.getElem?_eq_getElem h1) (by rw [ha]; rfl)
    rw [this]; exact (whereI_eq hk).2
  clear hdec P hL
  refine op16 ?_
  (((try simp (implicitDefEqProofs := false)); (try simp (implicitDefEqProofs := false) (disch := first | assumption | (try simp only [lens]); omega -splitDisjunctions))); all_goals try (repeat' ((first | ((with_reducible first | refine And.intro ?_ ?_ | refine Exists.intro ?_ ?_); first | omega | (simp <;> omega)) | (with_reducible refine spl (And.intro ?_ ?_) <;> intro _)) <;> ((try simp (implicitDefEqProofs := false)); (try simp (implicitDefEqProofs := false) (disch := first | assumption | (try simp only [lens]); omega -splitDisjunctions))))))
  refine CL.giv [2] ?_
  (((try simp (implicitDefEqProofs := false)); (try simp (implicitDefEqProofs := false) (disch := first | assumption | (try simp only [lens]); omega -splitDisjunctions))); all_goals try (repeat' ((first | ((with_reducible first | refine And.intro ?_ ?_ | refine Exists.intro ?_ ?_); first | omega | (simp <;> omega)) | (with_reducible refine spl (And.intro ?_ ?_) <;> intro _) | (refine CL.clo (hpi) ?_) | (refine CM.clo (hpi) ?_) | (refine CD.clo (hpi) ?_) | (refine CL.clo (hty) ?_) | (refine CM.clo (hty) ?_) | (refine CD.clo (hty) ?_)) <;> ((try simp (implicitDefEqProofs := false)); (try simp (implicitDefEqProofs := false) (disch := first | assumption | (try simp only [lens]); omega -splitDisjunctions))))))
  refine W_of fun Q hQ => ?_
  have main1 : True := trivial
  have main : ∀ k i, i + k = l.length → Q [(2, .ptr 0 0 0), (5, .ptr 1 0 0), (6, .list (((List.range (2 ^ l.length)).filter (sceneOf lg l []).locl).map (vecR l.length))), (7, .fn (.func 37) [] [.ptr 1 0 0]), (8, .ptr 2 0 0), (9, .ptr 3 0 0), (10, .int .i64 (i : Int))]
      [.rows 1 [[.int .i64 (lg : Int)]], .rows 1 [[.list (l.map frm)]], .rows 1 [[.sl 4 0 (modL l i).length]], .rows 1 [[.sl 5 0 (modL l i).length]], .rows 1 ((modL l i).map numRow), .rows 1 ((modL l i).map (inRow l))] := by
    intro k
    induction k with
    | zero =>
      intro i hi
      obtain rfl : i = l.length := by omega
      apply hQ
      (((try simp (implicitDefEqProofs := false)); (try simp (implicitDefEqProofs := false) (disch := first | assumption | (try simp only [lens]); omega -splitDisjunctions))); all_goals try (repeat' ((first | ((with_reducible first | refine And.intro ?_ ?_ | refine Exists.intro ?_ ?_); first | omega | (simp <;> omega)) | (with_reducible refine spl (And.intro ?_ ?_) <;> intro _)) <;> ((try simp (implicitDefEqProofs := false)); (try simp (implicitDefEqProofs := false) (disch := first | assumption | (try simp only [lens]); omega -splitDisjunctions))))))
      clear main1
      have hms : ∀ j (h : j < (modL l l.length).length), (modL l l.length)[j] < l.length ∧ inP l (modL l l.length)[j] < l.length ∧ l[(modL l l.length)[j]]?.map Fm.kind = some (kdP l (modL l l.length)[j]) := by
        intro j h
        obtain ⟨h1, h2⟩ := mem_modL.1 (List.getElem_mem h)
        refine ⟨h1, hinP _ (List.getElem_mem h), ?_⟩
        rw [kdP_at h1, List.getElem?_eq_getElem h1]; rfl
      have hmay := fun x y => may_ref lg l x y hinP
      have hdem := demands_ref l
      have hwh := whole_eq lg l
      have hml : (modL l l.length).length ≤ 10 := by
        have := List.length_filter_le (fun i => decide (kdP l i = 8) || decide (kdP l i = 9)) (List.range l.length)
        rw [List.length_range] at this
        unfold modL; omega
      generalize modL l l.length = ms at hms hmay hdem hwh hml ⊢
      refine W_of fun Q2 hQ2 => ?_
      have step : ∀ ws : List Nat, ws.length ≤ 1024 → ((ws.filter (sceneOf lg l ws).whole).length = ws.length → R = ws) →
          ((ws.filter (sceneOf lg l ws).whole).length ≠ ws.length → Q2 [(2, .ptr 0 0 0), (5, .ptr 1 0 0), (6, .list ((ws.filter (sceneOf lg l ws).whole).map (vecR l.length))), (8, .ptr 2 0 0), (9, .ptr 3 0 0), (11, .ptr 4 0 0), (12, .fn (.func 39) [] [.ptr 2 0 0, .ptr 1 0 0, .ptr 4 0 0, .ptr 3 0 0, .ptr 0 0 0])]
            [.rows 1 [[.int .i64 (lg : Int)]], .rows 1 [[.list (l.map frm)]], .rows 1 [[.sl 5 0 ms.length]], .rows 1 [[.sl 6 0 ms.length]], .rows 1 [[.fn (.func 38) [] [.ptr 2 0 0, .ptr 1 0 0]]], .rows 1 (ms.map numRow), .rows 1 (ms.map (inRow l))]) →
          Q2 [(2, .ptr 0 0 0), (5, .ptr 1 0 0), (6, .list (ws.map (vecR l.length))), (8, .ptr 2 0 0), (9, .ptr 3 0 0), (11, .ptr 4 0 0), (12, .fn (.func 39) [] [.ptr 2 0 0, .ptr 1 0 0, .ptr 4 0 0, .ptr 3 0 0, .ptr 0 0 0])]
            [.rows 1 [[.int .i64 (lg : Int)]], .rows 1 [[.list (l.map frm)]], .rows 1 [[.sl 5 0 ms.length]], .rows 1 [[.sl 6 0 ms.length]], .rows 1 [[.fn (.func 38) [] [.ptr 2 0 0, .ptr 1 0 0]]], .rows 1 (ms.map numRow), .rows 1 (ms.map (inRow l))] := by
        intro ws hws hEq hNe
        have hwh := hwh ws
        generalize hwb : (sceneOf lg l ws).whole = wh at hwh hEq hNe
        apply hQ2
        (((try simp (implicitDefEqProofs := false)); (try simp (implicitDefEqProofs := false) (disch := first | assumption | (try simp only [lens]); omega -splitDisjunctions))); all_goals try (repeat' ((first | ((with_reducible first | refine And.intro ?_ ?_ | refine Exists.intro ?_ ?_); first | omega | (simp <;> omega)) | (with_reducible refine spl (And.intro ?_ ?_) <;> intro _)) <;> ((try simp (implicitDefEqProofs := false)); (try simp (implicitDefEqProofs := false) (disch := first | assumption | (try simp only [lens]); omega -splitDisjunctions))))))
        refine W_of fun Q4 hQ4 => ?_
        have main4 : ∀ k a, a + k = ws.length → Q4 [(2, .ptr 0 0 0), (5, .ptr 1 0 0), (6, .list (ws.map (vecR l.length))), (8, .ptr 2 0 0), (9, .ptr 3 0 0), (11, .ptr 4 0 0), (12, .fn (.func 39) [] [.ptr 2 0 0, .ptr 1 0 0, .ptr 4 0 0, .ptr 3 0 0, .ptr 0 0 0]), (13, .sl 5 0 ((ws.take a).filter wh).length), (14, .int .i64 (a : Int))]
            [.rows 1 [[.int .i64 (lg : Int)]], .rows 1 [[.list (l.map frm)]], .rows 1 [[.sl 6 0 ms.length]], .rows 1 [[.sl 7 0 ms.length]], .rows 1 [[.fn (.func 38) [] [.ptr 2 0 0, .ptr 1 0 0]]], .rows 1 (((ws.take a).filter wh).map (vecR l.length)), .rows 1 (ms.map numRow), .rows 1 (ms.map (inRow l))] := by
          intro k
          induction k with
          | zero =>
            intro a ha
            rw [List.take_of_length_le (by omega)]
            clear hwh
            have hfl := List.length_filter_le wh ws
            generalize ws.filter wh = left at hEq hNe hfl ⊢
            apply hQ4
            by_cases he : left.length = ws.length
            · (((try simp (implicitDefEqProofs := false) [he]); (try simp (implicitDefEqProofs := false) (disch := first | assumption | (try simp only [lens]); omega -splitDisjunctions) [he])); all_goals try (repeat' ((first | ((with_reducible first | refine And.intro ?_ ?_ | refine Exists.intro ?_ ?_); first | omega | (simp <;> omega)) | (with_reducible refine spl (And.intro ?_ ?_) <;> intro _)) <;> ((try simp (implicitDefEqProofs := false) [he]); (try simp (implicitDefEqProofs := false) (disch := first | assumption | (try simp only [lens]); omega -splitDisjunctions) [he])))))
              rw [hEq he]
              refine W_of fun Q12 hQ12 => ?_
              have main12 : ∀ k i, i + k = ws.length → (∀ j (h : j < ws.length), j < i → ws[j].testBit 0 = true) → Q12 [(6, .list (ws.map (vecR l.length))), (21, .int .i64 (i : Int))] [] := by
                intro k
                induction k with
                | zero =>
                  intro i hi hb
                  have hall : all0 ws = true := by
                    rw [all0, List.all_eq_true]
                    intro x hx
                    obtain ⟨j, hj, rfl⟩ := List.mem_iff_getElem.1 hx
                    exact hb j hj (by omega)
                  apply hQ12
                  (((try simp (implicitDefEqProofs := false)); (try simp (implicitDefEqProofs := false) (disch := first | assumption | (try simp only [lens]); omega -splitDisjunctions))); all_goals try (repeat' ((first | ((with_reducible first | refine And.intro ?_ ?_ | refine Exists.intro ?_ ?_); first | omega | (simp <;> omega)) | (with_reducible refine spl (And.intro ?_ ?_) <;> intro _)) <;> ((try simp (implicitDefEqProofs := false)); (try simp (implicitDefEqProofs := false) (disch := first | assumption | (try simp only [lens]); omega -splitDisjunctions))))))
                  all_goals simp [hall]
                | succ k ih12 =>
                  intro i hi hb
                  have hil : i < ws.length := by omega
                  cases hbi : ws[i].testBit 0 with
                  | true =>
                    have ih12 := ih12 (i + 1) (by omega) (fun j hj hji => by
                      by_cases e : j = i
                      · subst e; exact hbi
                      · exact hb j hj (by omega))
                    apply hQ12
                    (((try simp (implicitDefEqProofs := false) [hil, vecR, bitsL_get, hbi, hl0]); (try simp (implicitDefEqProofs := false) (disch := first | assumption | (try simp only [lens]); omega -splitDisjunctions) [hil, vecR, bitsL_get, hbi, hl0])); all_goals try (repeat' ((first | ((with_reducible first | refine And.intro ?_ ?_ | refine Exists.intro ?_ ?_); first | omega | (simp <;> omega)) | (with_reducible refine spl (And.intro ?_ ?_) <;> intro _)) <;> ((try simp (implicitDefEqProofs := false) [hil, vecR, bitsL_get, hbi, hl0]); (try simp (implicitDefEqProofs := false) (disch := first | assumption | (try simp only [lens]); omega -splitDisjunctions) [hil, vecR, bitsL_get, hbi, hl0])))))
                    all_goals simpa using ih12
                  | false =>
                    have hall : all0 ws = false := by
                      rw [all0, List.all_eq_false]
                      exact ⟨_, List.getElem_mem hil, by simp [hbi]⟩
                    apply hQ12
                    (((try simp (implicitDefEqProofs := false) [hil, vecR, bitsL_get, hbi, hl0]); (try simp (implicitDefEqProofs := false) (disch := first | assumption | (try simp only [lens]); omega -splitDisjunctions) [hil, vecR, bitsL_get, hbi, hl0])); all_goals try (repeat' ((first | ((with_reducible first | refine And.intro ?_ ?_ | refine Exists.intro ?_ ?_); first | omega | (simp <;> omega)) | (with_reducible refine spl (And.intro ?_ ?_) <;> intro _)) <;> ((try simp (implicitDefEqProofs := false) [hil, vecR, bitsL_get, hbi, hl0]); (try simp (implicitDefEqProofs := false) (disch := first | assumption | (try simp only [lens]); omega -splitDisjunctions) [hil, vecR, bitsL_get, hbi, hl0])))))
                    all_goals simp [hall]
              refine at2 (main12 _ 0 (Nat.zero_add _) (fun j h hj => by omega)) ?_ ?_ <;> simp
            · have hNe := hNe he
              (((try simp (implicitDefEqProofs := false) [he]); (try simp (implicitDefEqProofs := false) (disch := first | assumption | (try simp only [lens]); omega -splitDisjunctions) [he])); all_goals try (repeat' ((first | ((with_reducible first | refine And.intro ?_ ?_ | refine Exists.intro ?_ ?_); first | omega | (simp <;> omega)) | (with_reducible refine spl (And.intro ?_ ?_) <;> intro _)) <;> ((try simp (implicitDefEqProofs := false) [he]); (try simp (implicitDefEqProofs := false) (disch := first | assumption | (try simp only [lens]); omega -splitDisjunctions) [he])))))
              all_goals first | (exfalso; omega) | simpa using hNe
          | succ k ih4 =>
            intro a ha
            have hal : a < ws.length := by omega
            have ih4 := ih4 (a + 1) (by omega)
            rw [take_snoc hal, List.filter_append] at ih4
            have hwx := hwh ws[a]
            have hfl : ((ws.take a).filter wh).length ≤ 1024 := Nat.le_trans (List.length_filter_le _ _) (by simp; omega)
            generalize (ws.take a).filter wh = T at ih4 hfl ⊢
            obtain ⟨x, hx⟩ : ∃ x, x = ws[a] := ⟨_, rfl⟩
            have hxa : (ws.map (vecR l.length))[a]? = some (vecR l.length x) := by rw [hx]; simp [hal]
            rw [← hx] at hwx ih4
            apply hQ4
            clear hQ4 hQ2 hEq hNe
            (((try simp (implicitDefEqProofs := false) [hal]); (try simp (implicitDefEqProofs := false) (disch := first | assumption | (try simp only [lens]); omega -splitDisjunctions) [hal])); all_goals try (repeat' ((first | ((with_reducible first | refine And.intro ?_ ?_ | refine Exists.intro ?_ ?_); first | omega | (simp <;> omega)) | (with_reducible refine spl (And.intro ?_ ?_) <;> intro _)) <;> ((try simp (implicitDefEqProofs := false) [hal]); (try simp (implicitDefEqProofs := false) (disch := first | assumption | (try simp only [lens]); omega -splitDisjunctions) [hal])))))
            refine W_of fun Q6 hQ6 => ?_
            have main6 : ∀ k b, b + k = ws.length → Q6 [(2, .ptr 0 0 0), (5, .ptr 1 0 0), (6, .list (ws.map (vecR l.length))), (8, .ptr 2 0 0), (9, .ptr 3 0 0), (11, .ptr 4 0 0), (12, .fn (.func 39) [] [.ptr 2 0 0, .ptr 1 0 0, .ptr 4 0 0, .ptr 3 0 0, .ptr 0 0 0]), (13, .sl 5 0 T.length), (14, .int .i64 (a : Int)), (15, .sl 6 0 ms.length), (16, .bool (!decide ((lg : Int) = 2) || (ws.take b).any (mayB lg l x))), (17, .int .i64 (b : Int))]
                [.rows 1 [[.int .i64 (lg : Int)]], .rows 1 [[.list (l.map frm)]], .rows 1 [[.sl 7 0 ms.length]], .rows 1 [[.sl 8 0 ms.length]], .rows 1 [[.fn (.func 38) [] [.ptr 2 0 0, .ptr 1 0 0]]], .rows 1 (T.map (vecR l.length)), .rows 1 ((metL lg l ms x (ws.take b)).map boolRow), .rows 1 (ms.map numRow), .rows 1 (ms.map (inRow l))] := by
              intro k
              induction k with
              | zero =>
                intro b hb
                rw [List.take_of_length_le (by omega)]
                generalize hS0 : (!decide ((lg : Int) = 2) || ws.any (mayB lg l x)) = S0
                apply hQ6
                (((try simp (implicitDefEqProofs := false)); (try simp (implicitDefEqProofs := false) (disch := first | assumption | (try simp only [lens]); omega -splitDisjunctions))); all_goals try (repeat' ((first | ((with_reducible first | refine And.intro ?_ ?_ | refine Exists.intro ?_ ?_); first | omega | (simp <;> omega)) | (with_reducible refine spl (And.intro ?_ ?_) <;> intro _)) <;> ((try simp (implicitDefEqProofs := false)); (try simp (implicitDefEqProofs := false) (disch := first | assumption | (try simp only [lens]); omega -splitDisjunctions))))))
                refine W_of fun Q10 hQ10 => ?_
                have main10 : ∀ k j, j + k = ms.length → Q10 [(2, .ptr 0 0 0), (5, .ptr 1 0 0), (6, .list (ws.map (vecR l.length))), (8, .ptr 2 0 0), (9, .ptr 3 0 0), (11, .ptr 4 0 0), (12, .fn (.func 39) [] [.ptr 2 0 0, .ptr 1 0 0, .ptr 4 0 0, .ptr 3 0 0, .ptr 0 0 0]), (13, .sl 5 0 T.length), (14, .int .i64 (a : Int)), (15, .sl 6 0 ms.length), (16, .bool (S0 && (ms.take j).all fun i => demB l x i || ws.any (metP lg l x i))), (20, .int .i64 (j : Int))]
                    [.rows 1 [[.int .i64 (lg : Int)]], .rows 1 [[.list (l.map frm)]], .rows 1 [[.sl 7 0 ms.length]], .rows 1 [[.sl 8 0 ms.length]], .rows 1 [[.fn (.func 38) [] [.ptr 2 0 0, .ptr 1 0 0]]], .rows 1 (T.map (vecR l.length)), .rows 1 ((metL lg l ms x ws).map boolRow), .rows 1 (ms.map numRow), .rows 1 (ms.map (inRow l))] := by
                  intro k
                  induction k with
                  | zero =>
                    intro j hj
                    rw [List.take_of_length_le (by omega)]
                    have hwx' : wh x = (S0 && ms.all fun i => demB l x i || ws.any (metP lg l x i)) := by
                      rw [hwx, ← hS0]; congr 2
                      simp; omega
                    rw [← hwx']
                    apply hQ10
                    cases hx1 : wh x with
                    | true =>
                      simp only [List.filter_cons, hx1, if_true, List.filter_nil] at ih4
                      (((try simp (implicitDefEqProofs := false) [hal, vecR]); (try simp (implicitDefEqProofs := false) (disch := first | assumption | (try simp only [lens]); omega -splitDisjunctions) [hal, vecR])); all_goals try (repeat' ((first | ((with_reducible first | refine And.intro ?_ ?_ | refine Exists.intro ?_ ?_); first | omega | (simp <;> omega)) | (with_reducible refine spl (And.intro ?_ ?_) <;> intro _)) <;> ((try simp (implicitDefEqProofs := false) [hal, vecR]); (try simp (implicitDefEqProofs := false) (disch := first | assumption | (try simp only [lens]); omega -splitDisjunctions) [hal, vecR])))))
                      simpa [vecR, hx] using ih4
                    | false =>
                      simp only [List.filter_cons, hx1, List.filter_nil] at ih4
                      (((try simp (implicitDefEqProofs := false) [hal, vecR]); (try simp (implicitDefEqProofs := false) (disch := first | assumption | (try simp only [lens]); omega -splitDisjunctions) [hal, vecR])); all_goals try (repeat' ((first | ((with_reducible first | refine And.intro ?_ ?_ | refine Exists.intro ?_ ?_); first | omega | (simp <;> omega)) | (with_reducible refine spl (And.intro ?_ ?_) <;> intro _)) <;> ((try simp (implicitDefEqProofs := false) [hal, vecR]); (try simp (implicitDefEqProofs := false) (disch := first | assumption | (try simp only [lens]); omega -splitDisjunctions) [hal, vecR])))))
                      simpa using ih4
                  | succ k ih10 =>
                    intro j hj
                    have hjl : j < ms.length := by omega
                    have ih10 := ih10 (j + 1) (by omega)
                    have hd := hdem x j hjl
                    rw [take_snoc hjl, List.all_append, ← Bool.and_assoc] at ih10
                    generalize (S0 && (ms.take j).all fun i => demB l x i || ws.any (metP lg l x i)) = Sj at ih10 ⊢
                    simp only [List.all_cons, List.all_nil, Bool.and_true] at ih10
                    have hmt : (metL lg l ms x ws)[j]'(by simpa using hjl) = ws.any (metP lg l x ms[j]) := metL_get _
                    generalize demB l x ms[j] = dm at hd ih10
                    generalize ws.any (metP lg l x ms[j]) = mt at hmt ih10
                    apply hQ10
                    clear hQ10 hQ6
                    (((try simp (implicitDefEqProofs := false) [hal, hjl, ← hx, vecR, hmt]); (try simp (implicitDefEqProofs := false) (disch := first | assumption | (try simp only [lens]); omega -splitDisjunctions) [hal, hjl, ← hx, vecR, hmt])); all_goals try (repeat' ((first | ((with_reducible first | refine And.intro ?_ ?_ | refine Exists.intro ?_ ?_); first | omega | (simp <;> omega)) | (with_reducible refine spl (And.intro ?_ ?_) <;> intro _) | (refine CM.see (hd) ?_ ?_ ?_; (focus (intro _; simp [scn]; done)); (focus (simp [flats]; done)))) <;> ((try simp (implicitDefEqProofs := false) [hal, hjl, ← hx, vecR, hmt]); (try simp (implicitDefEqProofs := false) (disch := first | assumption | (try simp only [lens]); omega -splitDisjunctions) [hal, hjl, ← hx, vecR, hmt])))))
                    all_goals simp_all
                refine at2 (main10 _ 0 (Nat.zero_add _)) ?_ ?_ <;> simp
              | succ k ih6 =>
                intro b hb
                have hbl : b < ws.length := by omega
                have ih6 := ih6 (b + 1) (by omega)
                obtain ⟨y, hy⟩ : ∃ y, y = ws[b] := ⟨_, rfl⟩
                rw [take_snoc hbl, List.any_append, ← hy] at ih6
                have hm := hmay x y
                generalize ws.take b = wb at ih6 ⊢
                apply hQ6
                clear hQ6
                cases hmb : mayB lg l x y with
                | false =>
                  have hA : metL lg l ms x (wb ++ [y]) = metL lg l ms x wb := by
                    unfold metL
                    apply List.map_congr_left
                    intro i hi
                    rw [List.any_append]; simp [metP, hmb]
                  rw [hA] at ih6
                  simp only [List.any_cons, List.any_nil, hmb, Bool.or_false] at ih6
                  rw [hmb] at hm
                  (((try simp (implicitDefEqProofs := false) [hal, hbl, ← hx, ← hy, vecR]); (try simp (implicitDefEqProofs := false) (disch := first | assumption | (try simp only [lens]); omega -splitDisjunctions) [hal, hbl, ← hx, ← hy, vecR])); all_goals try (repeat' ((first | ((with_reducible first | refine And.intro ?_ ?_ | refine Exists.intro ?_ ?_); first | omega | (simp <;> omega)) | (with_reducible refine spl (And.intro ?_ ?_) <;> intro _) | (refine CL.see (hm) ?_ ?_ ?_; (focus (simp [scn]; done)); (focus (simp [flats]; done))) | (refine CD.see (hm) ?_ ?_ ?_; (focus (simp [scn]; done)); (focus (simp [flats]; done)))) <;> ((try simp (implicitDefEqProofs := false) [hal, hbl, ← hx, ← hy, vecR]); (try simp (implicitDefEqProofs := false) (disch := first | assumption | (try simp only [lens]); omega -splitDisjunctions) [hal, hbl, ← hx, ← hy, vecR])))))
                  simpa using ih6
                | true =>
                  simp only [List.any_cons, List.any_nil, hmb, Bool.true_or, Bool.or_true] at ih6
                  rw [hmb] at hm
                  (((try simp (implicitDefEqProofs := false) [hal, hbl, ← hx, ← hy, vecR]); (try simp (implicitDefEqProofs := false) (disch := first | assumption | (try simp only [lens]); omega -splitDisjunctions) [hal, hbl, ← hx, ← hy, vecR])); all_goals try (repeat' ((first | ((with_reducible first | refine And.intro ?_ ?_ | refine Exists.intro ?_ ?_); first | omega | (simp <;> omega)) | (with_reducible refine spl (And.intro ?_ ?_) <;> intro _) | (refine CL.see (hm) ?_ ?_ ?_; (focus (simp [scn]; done)); (focus (simp [flats]; done))) | (refine CD.see (hm) ?_ ?_ ?_; (focus (simp [scn]; done)); (focus (simp [flats]; done)))) <;> ((try simp (implicitDefEqProofs := false) [hal, hbl, ← hx, ← hy, vecR]); (try simp (implicitDefEqProofs := false) (disch := first | assumption | (try simp only [lens]); omega -splitDisjunctions) [hal, hbl, ← hx, ← hy, vecR])))))
                  refine W_of fun Q8 hQ8 => ?_
                  have main8 : ∀ k j, j + k = ms.length → Q8 [(2, .ptr 0 0 0), (5, .ptr 1 0 0), (6, .list (ws.map (vecR l.length))), (8, .ptr 2 0 0), (9, .ptr 3 0 0), (11, .ptr 4 0 0), (12, .fn (.func 39) [] [.ptr 2 0 0, .ptr 1 0 0, .ptr 4 0 0, .ptr 3 0 0, .ptr 0 0 0]), (13, .sl 5 0 T.length), (14, .int .i64 (a : Int)), (15, .sl 6 0 ms.length), (16, .bool true), (17, .int .i64 (b : Int)), (18, .int .i64 (j : Int))]
                      [.rows 1 [[.int .i64 (lg : Int)]], .rows 1 [[.list (l.map frm)]], .rows 1 [[.sl 7 0 ms.length]], .rows 1 [[.sl 8 0 ms.length]], .rows 1 [[.fn (.func 38) [] [.ptr 2 0 0, .ptr 1 0 0]]], .rows 1 (T.map (vecR l.length)), .rows 1 ((mixL (metL lg l ms x (wb ++ [y])) (metL lg l ms x wb) j).map boolRow), .rows 1 (ms.map numRow), .rows 1 (ms.map (inRow l))] := by
                    intro k
                    induction k with
                    | zero =>
                      intro j hj
                      rw [mixL_all (by simp) (by simp; omega)]
                      apply hQ8
                      (((try simp (implicitDefEqProofs := false) [hal, hbl, ← hx, ← hy, vecR]); (try simp (implicitDefEqProofs := false) (disch := first | assumption | (try simp only [lens]); omega -splitDisjunctions) [hal, hbl, ← hx, ← hy, vecR])); all_goals try (repeat' ((first | ((with_reducible first | refine And.intro ?_ ?_ | refine Exists.intro ?_ ?_); first | omega | (simp <;> omega)) | (with_reducible refine spl (And.intro ?_ ?_) <;> intro _)) <;> ((try simp (implicitDefEqProofs := false) [hal, hbl, ← hx, ← hy, vecR]); (try simp (implicitDefEqProofs := false) (disch := first | assumption | (try simp only [lens]); omega -splitDisjunctions) [hal, hbl, ← hx, ← hy, vecR])))))
                      simpa using ih6
                    | succ k ih8 =>
                      intro j hj
                      have hjl : j < ms.length := by omega
                      have ih8 := ih8 (j + 1) (by omega)
                      obtain ⟨m1, m2, m3⟩ := hms j hjl
                      have hk : l[ms[j]].kind = kdP l ms[j] := by rw [kdP_at m1]
                      have hd := hdem y j hjl
                      have hlen : (mixL (metL lg l ms x (wb ++ [y])) (metL lg l ms x wb) j).length = ms.length := by rw [mixL_length] <;> simp; omega
                      have hnew : (metL lg l ms x (wb ++ [y]))[j]? = some (wb.any (metP lg l x ms[j]) || metP lg l x ms[j] y) := by
                        rw [List.getElem?_eq_getElem (by simpa using hjl), metL_get, List.any_append]; simp
                      have hold : (metL lg l ms x wb)[j]? = some (wb.any (metP lg l x ms[j])) := by
                        rw [List.getElem?_eq_getElem (by simpa using hjl), metL_get]
                      have hmp : metP lg l x ms[j] y = ((y.testBit (inP l ms[j]) != decide (kdP l ms[j] = 8)) && (!decide ((lg : Int) = 8) || demB l y ms[j])) := by
                        unfold metP
                        rw [hmb, Bool.true_and]
                        congr 2
                        simp; omega
                      generalize hAA : metL lg l ms x (wb ++ [y]) = AA at ih8 hnew hlen ⊢
                      generalize hBB : metL lg l ms x wb = BB at ih8 hold hlen ⊢
                      have hst := mixL_set hnew hold
                      have hsk := mixL_skip hnew hold
                      rw [hmp] at hst hsk
                      generalize mixL AA BB j = cur at hst hsk hlen ⊢
                      generalize mixL AA BB (j + 1) = nxt at ih8 hst hsk
                      generalize hyk : y.testBit (inP l ms[j]) = yk at hst hsk
                      generalize hbx : decide (kdP l ms[j] = 8) = bx at hst hsk
                      generalize demB l y ms[j] = dy at hd hst hsk
                      generalize wb.any (metP lg l x ms[j]) = mo at hst hsk
                      apply hQ8
                      clear hQ8 ih6
                      (((try simp (implicitDefEqProofs := false) [hal, hbl, hjl, ← hx, ← hy, vecR, m1, m2, hk, hyk, hbx, inRow_eq, bitsL_get, hlen]); (try simp (implicitDefEqProofs := false) (disch := first | assumption | (try simp only [lens]); omega -splitDisjunctions) [hal, hbl, hjl, ← hx, ← hy, vecR, m1, m2, hk, hyk, hbx, inRow_eq, bitsL_get, hlen])); all_goals try (repeat' ((first | ((with_reducible first | refine And.intro ?_ ?_ | refine Exists.intro ?_ ?_); first | omega | (simp <;> omega)) | (with_reducible refine spl (And.intro ?_ ?_) <;> intro _) | (refine CL.see (hd) ?_ ?_ ?_; (focus (simp [scn]; done)); (focus (simp [flats]; done))) | (refine CD.see (hd) ?_ ?_ ?_; (focus (simp [scn]; done)); (focus (simp [flats]; done)))) <;> ((try simp (implicitDefEqProofs := false) [hal, hbl, hjl, ← hx, ← hy, vecR, m1, m2, hk, hyk, hbx, inRow_eq, bitsL_get, hlen]); (try simp (implicitDefEqProofs := false) (disch := first | assumption | (try simp only [lens]); omega -splitDisjunctions) [hal, hbl, hjl, ← hx, ← hy, vecR, m1, m2, hk, hyk, hbx, inRow_eq, bitsL_get, hlen])))))
                      all_goals first | (rw [hst (by simp_all)]; simpa using ih8; done) | (rw [hsk (by simp_all)]; simpa using ih8; done)
                  refine at2 (main8 _ 0 (Nat.zero_add _)) ?_ ?_ <;> simp [mixL]
            refine at2 (main6 _ 0 (Nat.zero_add _)) ?_ ?_ <;> simp [metL, List.map_const']
        simpa using main4 ws.length 0 (by omega)
      have main7 : ∀ N (ws : List Nat), ws.length ≤ N → ws.length ≤ 1024 → elim lg l N ws = R → Q2 [(2, .ptr 0 0 0), (5, .ptr 1 0 0), (6, .list (ws.map (vecR l.length))), (8, .ptr 2 0 0), (9, .ptr 3 0 0), (11, .ptr 4 0 0), (12, .fn (.func 39) [] [.ptr 2 0 0, .ptr 1 0 0, .ptr 4 0 0, .ptr 3 0 0, .ptr 0 0 0])]
          [.rows 1 [[.int .i64 (lg : Int)]], .rows 1 [[.list (l.map frm)]], .rows 1 [[.sl 5 0 ms.length]], .rows 1 [[.sl 6 0 ms.length]], .rows 1 [[.fn (.func 38) [] [.ptr 2 0 0, .ptr 1 0 0]]], .rows 1 (ms.map numRow), .rows 1 (ms.map (inRow l))] := by
        intro N
        induction N with
        | zero =>
          intro ws h0 h1 hE
          have : ws = [] := List.length_eq_zero_iff.1 (by omega)
          subst this
          exact step [] h1 (fun _ => hE.symm) (fun h => absurd rfl h)
        | succ N ih7 =>
          intro ws h0 h1 hE
          have hfl := List.length_filter_le (sceneOf lg l ws).whole ws
          rw [elim] at hE
          refine step ws h1 (fun he => ?_) (fun hne => ih7 _ (by omega) (by omega) ?_)
          · rw [if_pos he] at hE; exact hE.symm
          · rw [if_neg hne] at hE; exact hE
      have hW := List.length_filter_le (sceneOf lg l []).locl (List.range (2 ^ l.length))
      rw [List.length_range] at hW
      have hM : 2 ^ l.length ≤ 1024 := Nat.le_trans (Nat.pow_le_pow_right (by decide) hp) (by decide)
      exact main7 _ _ hW (Nat.le_trans hW hM) hR
    | succ k ih =>
      intro i hi
      have hil : i < l.length := by omega
      have ih := ih (i + 1) (by omega)
      have hml : (modL l i).length ≤ 10 := by
        have := List.length_filter_le (fun i => decide (kdP l i = 8) || decide (kdP l i = 9)) (List.range i)
        rw [List.length_range] at this
        unfold modL; omega
      have hsn : modL l (i + 1) = modL l i ++ if l[i].kind = 8 ∨ l[i].kind = 9 then [i] else [] := by
        unfold modL
        rw [List.range_succ, List.filter_append]
        congr 1
        simp only [List.filter_cons, kdP_at hil, List.filter_nil]
        by_cases h8 : l[i].kind = 8 <;> by_cases h9 : l[i].kind = 9 <;> simp [h8, h9]
      rw [hsn] at ih
      have hmem := List.getElem_mem hil
      by_cases hk : l[i].kind = 8 ∨ l[i].kind = 9
      · obtain ⟨a, ha⟩ : ∃ a, l[i].kids = [a] := modal_kid (hok _ hmem) hk
        have hw := (whereI_eq (hkid _ hmem a (by rw [ha]; simp))).1
        have hin : inP l i = idxF l a := kid_idx (List.getElem?_eq_getElem hil) (by rw [ha]; rfl)
        rw [if_pos hk, List.map_append, List.map_append] at ih
        generalize modL l i = M at ih hml ⊢
        apply hQ
        (((try simp (implicitDefEqProofs := false) [ha, hw]); (try simp (implicitDefEqProofs := false) (disch := first | assumption | (try simp only [lens]); omega -splitDisjunctions) [ha, hw])); all_goals try (repeat' ((first | ((with_reducible first | refine And.intro ?_ ?_ | refine Exists.intro ?_ ?_); first | omega | (simp <;> omega)) | (with_reducible refine spl (And.intro ?_ ?_) <;> intro _) | (refine CM.see (where2_ref l a) ?_ ?_ ?_; (focus (intro _; simp [scn]; done)); (focus (simp [flats]; done)))) <;> ((try simp (implicitDefEqProofs := false) [ha, hw]); (try simp (implicitDefEqProofs := false) (disch := first | assumption | (try simp only [lens]); omega -splitDisjunctions) [ha, hw])))))
        all_goals first | (exfalso; simp_all; done) | simpa [inRow_eq, hin] using ih
      · rw [if_neg hk, List.append_nil] at ih
        simp only [not_or] at hk
        apply hQ
        (((try simp (implicitDefEqProofs := false) [hk.1, hk.2]); (try simp (implicitDefEqProofs := false) (disch := first | assumption | (try simp only [lens]); omega -splitDisjunctions) [hk.1, hk.2])); all_goals try (repeat' ((first | ((with_reducible first | refine And.intro ?_ ?_ | refine Exists.intro ?_ ?_); first | omega | (simp <;> omega)) | (with_reducible refine spl (And.intro ?_ ?_) <;> intro _)) <;> ((try simp (implicitDefEqProofs := false) [hk.1, hk.2]); (try simp (implicitDefEqProofs := false) (disch := first | assumption | (try simp only [lens]); omega -splitDisjunctions) [hk.1, hk.2])))))
        simpa using ih
  refine at2 (main _ 0 (Nat.zero_add _)) ?_ ?_ <;> simp [modL]
end Go.Proofs.Ytliockncjdeloaa
