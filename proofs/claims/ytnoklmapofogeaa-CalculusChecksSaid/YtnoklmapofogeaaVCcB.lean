/-
  calculus: bags of formulas.
-/
import Derived.Test.YtnoklmapofogeaaVCcA
import Derived.Test.YtnoklmapofogeaaVBtS
namespace Go.Proofs.Ytnoklmapofogeaa
open Go Go.Pv
set_option linter.unusedVariables false
set_option linter.unusedSimpArgs false
set_option maxRecDepth 100000
set_option maxHeartbeats 4000000

noncomputable instance : BEq Fm := ⟨sameB⟩
instance : LawfulBEq Fm where
  eq_of_beq h := sameB_iff.1 h
  rfl := sameB_iff.2 rfl
/-- the place of the first of a kind -/
def placeP (p : Fm → Bool) (l : List Fm) : Int := match l.findIdx? p with
  | some i => i
  | none => -1
theorem placeP_at {p : Fm → Bool} {l : List Fm} {i : Nat} (h : i < l.length) (hp : p l[i] = true) (hb : ∀ j (hj : j < i), p (l[j]'(by omega)) = false) : placeP p l = i := by
  unfold placeP
  have : l.findIdx? p = some i := by
    rw [List.findIdx?_eq_some_iff_getElem]
    exact ⟨h, hp, fun j hj => by simp [hb j hj]⟩
  rw [this]
theorem placeP_none {p : Fm → Bool} {l : List Fm} (hb : ∀ j (hj : j < l.length), p l[j] = false) : placeP p l = -1 := by
  unfold placeP
  have : l.findIdx? p = none := by
    rw [List.findIdx?_eq_none_iff]
    intro x hx
    obtain ⟨j, hj, rfl⟩ := List.mem_iff_getElem.1 hx
    exact hb j hj
  rw [this]
def x185_L0 : XC := .seq (.reg [⟨some 9,.binOp .lss 3 (.tmp 8) (.tmp 7) 3,none⟩]) (.seq (.cond (.tmp 9) (.skip) (.exit 0)) (.seq (.block 1 (.seq (.reg [⟨some 10,.move (.tmp 8),none⟩,⟨some 5,.assign (.tmp 10),none⟩]) (.seq (.reg [⟨some 11,.move (.tmp 1),none⟩,⟨some 12,.move (.tmp 0),none⟩,⟨some 13,.move (.tmp 5),none⟩,⟨some 14,.indexAddr 129 (.tmp 12) (.tmp 13),none⟩,⟨some 15,.load 24 (.tmp 14),none⟩,⟨some 16,.call ⟨.value (.tmp 11),#[.tmp 15],#[24]⟩,none⟩]) (.cond (.tmp 16) (.seq (.reg [⟨some 17,.move (.tmp 5),none⟩,⟨some 4,.assign (.tmp 17),none⟩]) (.ret)) (.skip))))) (.reg [⟨some 18,.binOp .add 3 (.tmp 8) (.const (.int .i64 1)) 3,none⟩,⟨some 8,.move (.tmp 18),none⟩])))
def x185 : XC := .seq (.reg [⟨some 4,.assign (.const (.int .i64 0)),none⟩]) (.seq (.seq (.reg [⟨some 6,.move (.tmp 0),none⟩,⟨some 7,.call ⟨.builtin .len,#[.tmp 6],#[129]⟩,none⟩,⟨some 8,.move (.const (.int .i64 0)),none⟩]) (.bloop 0 x185_L0)) (.seq (.reg [⟨some 4,.assign (.const (.int .i64 (-1))),none⟩]) (.ret)))
@[simp] theorem x185_s {C : WC} {e : AE} {s : Store} {K : KS} : type_of% (@X_at C e s K _ _ x185_L0.eq_1) ∧ type_of% (@X_at C e s K _ _ x185.eq_1) := ⟨X_at x185_L0.eq_1, X_at x185.eq_1⟩
def an185 : Ann := ⟨[], [(0, [], [0, 1, 7, 8], [4])], []⟩
def cx185 (P : Program) (m : Nat) : WC := ⟨P, m, an185⟩
@[simp] theorem cx185_a {P : Program} {m : Nat} : (cx185 P m).P = P ∧ (cx185 P m).m = m ∧ (cx185 P m).A.loopOf 0 = ([], [0, 1, 7, 8], [4]) := ⟨rfl, rfl, rfl⟩
instance {P : Program} {m f : Nat} [h : EnT P f] : EnT (cx185 P m).P f := h
theorem fi185 : FI Try.prog 185 cx185 x185 [.tmp 4] Try.f185 := fiOf (fun _ _ => rfl) (by decide +kernel) Try.func185 (by kernel_rfl) (by kernel_rfl) mixed

theorem IndexFunc_bag (l : List Fm) (hl : l.length ≤ 1000000) (fid : Nat) [EnT Try.prog fid] (ys : List PV) [hy : FlatL ys] (p : Fm → Bool) (h : ∀ a ∈ l, CallOK Try.prog fid (.agg (frm a) :: ys) [] (.bool (p a)) []) :
    CallOK Try.prog 185 [.list (l.map frm), .fn (.func fid) [] ys] [] (.int .i64 (placeP p l)) [] := by
  have hcl : ∀ a : Fm, ∀ v ∈ .agg (frm a) :: ys, Closed v := by
    intro a v hv
    rcases List.mem_cons.1 hv with rfl | hv
    · exact closed_frm a
    · exact hy.closed v hv
  refine fi185.op ?_
  ((refine Sg.h ?_); try repeat' ((first | (with_reducible first | refine Sg.mk ?_ | refine brA ?_ | refine brE fun _ => ?_ | (refine spl (And.intro ?_ ?_) <;> intro _))) <;> ((try simp (implicitDefEqProofs := false)); (try simp (implicitDefEqProofs := false) (disch := first | assumption | (try simp only [lens]); omega -splitDisjunctions)))))
  refine W_of fun Q hQ => ?_
  have main : ∀ n i, i + n = l.length → (∀ j (hj : j < i) (hl : j < l.length), p l[j] = false) → Q [(0, .list (l.map frm)), (1, .fn (.func fid) [] ys), (7, .int .i64 (l.length : Int)), (8, .int .i64 (i : Int))] [] := by
    intro n
    induction n with
    | zero =>
      intro i hi hb
      have hv := placeP_none fun j hj => hb j (by omega) hj
      generalize placeP p l = v at *
      apply hQ
      subst hv
      ((refine Sg.h ?_); try repeat' ((first | (with_reducible first | refine Sg.mk ?_ | refine brA ?_ | refine brE fun _ => ?_ | (refine spl (And.intro ?_ ?_) <;> intro _))) <;> ((try simp (implicitDefEqProofs := false)); (try simp (implicitDefEqProofs := false) (disch := first | assumption | (try simp only [lens]); omega -splitDisjunctions)))))
    | succ n ih =>
      intro i hi hb
      have hil : i < l.length := by omega
      have hc := h _ (List.getElem_mem hil)
      have ih := ih (i + 1) (by omega)
      have hat := fun hp => placeP_at hil hp fun j hj => hb j hj (by omega)
      generalize placeP p l = v at *
      cases hp : p l[i] with
      | true =>
        have hv := hat hp
        rw [hp] at hc
        apply hQ
        clear hQ
        subst hv
        ((refine Sg.h ?_); try repeat' ((first | (with_reducible first | refine Sg.mk ?_ | refine brA ?_ | refine brE fun _ => ?_ | (refine spl (And.intro ?_ ?_) <;> intro _))) <;> ((try simp (implicitDefEqProofs := false) [hil]); (try simp (implicitDefEqProofs := false) (disch := first | assumption | (try simp only [lens]); omega -splitDisjunctions) [hil]))))
        refine CL.clo hc ?_ (hcl _)
        ((refine Sg.h ?_); try repeat' ((first | (with_reducible first | refine Sg.mk ?_ | refine brA ?_ | refine brE fun _ => ?_ | (refine spl (And.intro ?_ ?_) <;> intro _))) <;> ((try simp (implicitDefEqProofs := false)); (try simp (implicitDefEqProofs := false) (disch := first | assumption | (try simp only [lens]); omega -splitDisjunctions)))))
      | false =>
        have ih := ih fun j hj hl => by
          rcases Nat.lt_or_ge j i with hji | hji
          · exact hb j hji hl
          · have : j = i := by omega
            subst this; exact hp
        rw [hp] at hc
        apply hQ
        clear hQ
        ((refine Sg.h ?_); try repeat' ((first | (with_reducible first | refine Sg.mk ?_ | refine brA ?_ | refine brE fun _ => ?_ | (refine spl (And.intro ?_ ?_) <;> intro _))) <;> ((try simp (implicitDefEqProofs := false) [hil]); (try simp (implicitDefEqProofs := false) (disch := first | assumption | (try simp only [lens]); omega -splitDisjunctions) [hil]))))
        refine CL.clo hc ?_ (hcl _)
        ((refine Sg.h ?_); try repeat' ((first | (with_reducible first | refine Sg.mk ?_ | refine brA ?_ | refine brE fun _ => ?_ | (refine spl (And.intro ?_ ?_) <;> intro _))) <;> ((try simp (implicitDefEqProofs := false)); (try simp (implicitDefEqProofs := false) (disch := first | assumption | (try simp only [lens]); omega -splitDisjunctions)))))
        all_goals first | exact ih | (refine at2 ih ?_ ?_ <;> simp; done) | (exfalso; first | omega | (simp_all; done) | (simp_all; omega))
  all_goals first | exact main _ 0 (Nat.zero_add _) (fun j hj => by omega) | (refine at2 main _ 0 (Nat.zero_add _) (fun j hj => by omega) ?_ ?_ <;> simp; done) | (exfalso; first | omega | (simp_all; done) | (simp_all; omega))
def x186 : XC := .seq (.reg [⟨some 2,.box 24 (.tmp 0),none⟩,⟨some 3,.assign (.const (.bool false)),none⟩]) (.seq (.reg [⟨some 4,.load 24 (.tmp 1),none⟩,⟨some 5,.load 24 (.tmp 2),none⟩,⟨some 6,.call ⟨.value (.func 106),#[.tmp 4,.tmp 5],#[24,24]⟩,none⟩,⟨some 3,.assign (.tmp 6),none⟩]) (.ret))
@[simp] theorem x186_s {C : WC} {e : AE} {s : Store} {K : KS} : type_of% (@X_at C e s K _ _ x186.eq_1) := X_at x186.eq_1
def an186 : Ann := ⟨[], [], []⟩
def cx186 (P : Program) (m : Nat) : WC := ⟨P, m, an186⟩
@[simp] theorem cx186_a {P : Program} {m : Nat} : (cx186 P m).P = P ∧ (cx186 P m).m = m := ⟨rfl, rfl⟩
instance {P : Program} {m f : Nat} [h : EnT P f] : EnT (cx186 P m).P f := h
theorem fi186 : FI Try.prog 186 cx186 x186 [.tmp 3] Try.f186 := fiOf (fun _ _ => rfl) (by decide +kernel) Try.func186 (by kernel_rfl) (by kernel_rfl) mixed

theorem index1_bag (f g : Fm) : CallOK Try.prog 186 [.agg (frm g), .iptr (frm f)] [] (.bool (sameB f g)) [] := by
  refine fi186.op ?_
  ((refine Sg.h ?_); try repeat' ((first | (with_reducible first | refine Sg.mk ?_ | refine brA ?_ | refine brE fun _ => ?_ | (refine spl (And.intro ?_ ?_) <;> intro _)) | (refine clo (Same_formula f g) ?_)) <;> ((try simp (implicitDefEqProofs := false)); (try simp (implicitDefEqProofs := false) (disch := first | assumption | (try simp only [lens]); omega -splitDisjunctions)))))
def x176 : XC := .seq (.reg [⟨some 3,.box 24 (.tmp 1),none⟩,⟨some 4,.assign (.const (.int .i64 0)),none⟩]) (.seq (.reg [⟨some 5,.move (.tmp 0),none⟩,⟨some 6,.makeFunc (.func 186) #[] #[.tmp 3],none⟩,⟨some 7,.call ⟨.value (.func 185),#[.tmp 5,.tmp 6],#[129,61]⟩,none⟩,⟨some 4,.assign (.tmp 7),none⟩]) (.ret))
@[simp] theorem x176_s {C : WC} {e : AE} {s : Store} {K : KS} : type_of% (@X_at C e s K _ _ x176.eq_1) := X_at x176.eq_1
def an176 : Ann := ⟨[], [], []⟩
def cx176 (P : Program) (m : Nat) : WC := ⟨P, m, an176⟩
@[simp] theorem cx176_a {P : Program} {m : Nat} : (cx176 P m).P = P ∧ (cx176 P m).m = m := ⟨rfl, rfl⟩
instance {P : Program} {m f : Nat} [h : EnT P f] : EnT (cx176 P m).P f := h
theorem fi176 : FI Try.prog 176 cx176 x176 [.tmp 4] Try.f176 := fiOf (fun _ _ => rfl) (by decide +kernel) Try.func176 (by kernel_rfl) (by kernel_rfl) mixed

theorem index_bag (l : List Fm) (hl : l.length ≤ 1000000) (f : Fm) : CallOK Try.prog 176 [.list (l.map frm), .agg (frm f)] [] (.int .i64 (placeP (sameB f) l)) [] := by
  have h := IndexFunc_bag l hl 186 [.iptr (frm f)] (sameB f) (fun g _ => index1_bag f g)
  refine fi176.op ?_
  ((refine Sg.h ?_); try repeat' ((first | (with_reducible first | refine Sg.mk ?_ | refine brA ?_ | refine brE fun _ => ?_ | (refine spl (And.intro ?_ ?_) <;> intro _))) <;> ((try simp (implicitDefEqProofs := false)); (try simp (implicitDefEqProofs := false) (disch := first | assumption | (try simp only [lens]); omega -splitDisjunctions)))))
  refine CL.giv [0] ?_
  ((refine Sg.h ?_); try repeat' ((first | (with_reducible first | refine Sg.mk ?_ | refine brA ?_ | refine brE fun _ => ?_ | (refine spl (And.intro ?_ ?_) <;> intro _)) | (refine clo h ?_)) <;> ((try simp (implicitDefEqProofs := false)); (try simp (implicitDefEqProofs := false) (disch := first | assumption | (try simp only [lens]); omega -splitDisjunctions)))))
noncomputable def hasF (l : List Fm) (f : Fm) : Bool := decide (0 ≤ placeP (sameB f) l)
theorem placeP_iff (l : List Fm) (f : Fm) : (f ∈ l ∧ placeP (sameB f) l = (l.idxOf f : Nat) ∧ l.idxOf f < l.length) ∨ (f ∉ l ∧ placeP (sameB f) l = -1) := by
  by_cases h : f ∈ l
  · refine .inl ⟨h, ?_, List.idxOf_lt_length_of_mem h⟩
    refine placeP_at (List.idxOf_lt_length_of_mem h) ?_ fun j hj => ?_
    · rw [List.getElem_idxOf]; exact sameB_iff.2 rfl
    · have hjl : j < l.length := Nat.lt_trans hj (List.idxOf_lt_length_of_mem h)
      have this : (l[j] == f) = false := List.not_of_lt_findIdx hj
      cases hs : sameB f l[j] with
      | false => rfl
      | true => rw [← sameB_iff.1 hs] at this; simp at this
  · refine .inr ⟨h, placeP_none fun j hj => ?_⟩
    cases hs : sameB f l[j] with
    | false => rfl
    | true => exact absurd (sameB_iff.1 hs ▸ List.getElem_mem hj) h
theorem hasF_iff {l : List Fm} {f : Fm} : hasF l f = true ↔ f ∈ l := by
  rcases placeP_iff l f with ⟨h1, h2, _⟩ | ⟨h1, h2⟩ <;> simp [hasF, h1, h2]
def x143 : XC := .seq (.reg [⟨some 3,.box 24 (.tmp 1),none⟩,⟨some 4,.assign (.const (.bool false)),none⟩]) (.seq (.reg [⟨some 5,.move (.tmp 0),none⟩,⟨some 6,.load 24 (.tmp 3),none⟩,⟨some 7,.call ⟨.value (.func 176),#[.tmp 5,.tmp 6],#[129,24]⟩,none⟩,⟨some 8,.binOp .geq 3 (.tmp 7) (.const (.int .i64 0)) 3,none⟩,⟨some 4,.assign (.tmp 8),none⟩]) (.ret))
@[simp] theorem x143_s {C : WC} {e : AE} {s : Store} {K : KS} : type_of% (@X_at C e s K _ _ x143.eq_1) := X_at x143.eq_1
def an143 : Ann := ⟨[], [], []⟩
def cx143 (P : Program) (m : Nat) : WC := ⟨P, m, an143⟩
@[simp] theorem cx143_a {P : Program} {m : Nat} : (cx143 P m).P = P ∧ (cx143 P m).m = m := ⟨rfl, rfl⟩
instance {P : Program} {m f : Nat} [h : EnT P f] : EnT (cx143 P m).P f := h
theorem fi143 : FI Try.prog 143 cx143 x143 [.tmp 4] Try.f143 := fiOf (fun _ _ => rfl) (by decide +kernel) Try.func143 (by kernel_rfl) (by kernel_rfl) mixed

theorem has_bag (l : List Fm) (hl : l.length ≤ 1000000) (f : Fm) : CallOK Try.prog 143 [.list (l.map frm), .agg (frm f)] [] (.bool (hasF l f)) [] := by
  have h := index_bag l hl f
  unfold hasF
  generalize placeP (sameB f) l = v at *
  refine fi143.op ?_
  ((refine Sg.h ?_); try repeat' ((first | (with_reducible first | refine Sg.mk ?_ | refine brA ?_ | refine brE fun _ => ?_ | (refine spl (And.intro ?_ ?_) <;> intro _)) | (refine clo h ?_)) <;> ((try simp (implicitDefEqProofs := false)); (try simp (implicitDefEqProofs := false) (disch := first | assumption | (try simp only [lens]); omega -splitDisjunctions)))))
def x144 : XC := .seq (.reg [⟨some 3,.box 24 (.tmp 1),none⟩,⟨some 4,.assign (.const (.slice none 0 0)),none⟩]) (.seq (.reg [⟨some 6,.move (.tmp 0),none⟩,⟨some 7,.load 24 (.tmp 3),none⟩,⟨some 8,.call ⟨.value (.func 176),#[.tmp 6,.tmp 7],#[129,24]⟩,none⟩,⟨some 5,.assign (.tmp 8),none⟩]) (.seq (.drawn 2 [⟨some 9,.move (.tmp 0),none⟩,⟨some 10,.move (.tmp 5),none⟩,⟨some 11,.slice 129 (.tmp 9) none (some (.tmp 10)) none,none⟩,⟨some 12,.move (.tmp 0),none⟩,⟨some 13,.move (.tmp 5),none⟩,⟨some 14,.binOp .add 3 (.tmp 13) (.const (.int .i64 1)) 3,none⟩,⟨some 15,.slice 129 (.tmp 12) (some (.tmp 14)) none none,none⟩,⟨some 16,.buildSlice 173 2 #[(0,.tmp 11),(1,.tmp 15)],none⟩,⟨some 17,.call ⟨.value (.func 177),#[.tmp 16],#[173]⟩,none⟩,⟨some 4,.assign (.tmp 17),none⟩]) (.ret)))
@[simp] theorem x144_s {C : WC} {e : AE} {s : Store} {K : KS} : type_of% (@X_at C e s K _ _ x144.eq_1) := X_at x144.eq_1
def an144 : Ann := ⟨[(2, .mixz 8)], [], []⟩
def cx144 (P : Program) (m : Nat) : WC := ⟨P, m, an144⟩
@[simp] theorem cx144_a {P : Program} {m : Nat} : (cx144 P m).P = P ∧ (cx144 P m).m = m ∧ (cx144 P m).A.clsOf 2 = .mixz 8 ∧ (cx144 P m).A.frzOf 2 = [] := ⟨rfl, rfl, rfl, rfl⟩
instance {P : Program} {m f : Nat} [h : EnT P f] : EnT (cx144 P m).P f := h
theorem fi144 : FI Try.prog 144 cx144 x144 [.tmp 4] Try.f144 := fiOf (fun _ _ => rfl) (by decide +kernel) Try.func144 (by kernel_rfl) (by kernel_rfl) mixed

theorem less_bag (l : List Fm) (hl : l.length ≤ 100000) (f : Fm) (hf : f ∈ l) : CallOK Try.prog 144 [.list (l.map frm), .agg (frm f)] [] (.list ((l.erase f).map frm)) [] := by
  have h := index_bag l (by omega) f
  rcases placeP_iff l f with ⟨_, h2, h3⟩ | ⟨h1, _⟩
  · rw [h2] at h
    have hc := Concat_bag [l.take (l.idxOf f), l.drop (l.idxOf f + 1)] (by simp) (by simp; omega)
    rw [show [l.take (l.idxOf f), l.drop (l.idxOf f + 1)].flatten = l.erase f from by rw [List.erase_eq_eraseIdx_of_idxOf rfl, List.eraseIdx_eq_take_drop_succ]; simp] at hc
    generalize l.erase f = L at *
    generalize l.idxOf f = i at *
    simp only [List.map_cons, List.map_nil, List.map_take, List.map_drop] at hc
    refine fi144.op ?_
    ((refine Sg.h ?_); try repeat' ((first | (with_reducible first | refine Sg.mk ?_ | refine brA ?_ | refine brE fun _ => ?_ | (refine spl (And.intro ?_ ?_) <;> intro _)) | (refine clo h ?_) | (refine clo hc ?_)) <;> ((try simp (implicitDefEqProofs := false) [h3]); (try simp (implicitDefEqProofs := false) (disch := first | assumption | (try simp only [lens]); omega -splitDisjunctions) [h3]))))
  · exact absurd hf h1
def x150 : XC := .seq (.reg [⟨some 4,.assign (.const (.slice none 0 0)),none⟩]) (.seq (.reg [⟨some 5,.move (.tmp 0),none⟩,⟨some 6,.move (.tmp 1),none⟩,⟨some 7,.buildSlice 173 2 #[(0,.tmp 5),(1,.tmp 6)],none⟩,⟨some 8,.call ⟨.value (.func 177),#[.tmp 7],#[173]⟩,none⟩,⟨some 4,.assign (.tmp 8),none⟩]) (.ret))
@[simp] theorem x150_s {C : WC} {e : AE} {s : Store} {K : KS} : type_of% (@X_at C e s K _ _ x150.eq_1) := X_at x150.eq_1
def an150 : Ann := ⟨[], [], []⟩
def cx150 (P : Program) (m : Nat) : WC := ⟨P, m, an150⟩
@[simp] theorem cx150_a {P : Program} {m : Nat} : (cx150 P m).P = P ∧ (cx150 P m).m = m := ⟨rfl, rfl⟩
instance {P : Program} {m f : Nat} [h : EnT P f] : EnT (cx150 P m).P f := h
theorem fi150 : FI Try.prog 150 cx150 x150 [.tmp 4] Try.f150 := fiOf (fun _ _ => rfl) (by decide +kernel) Try.func150 (by kernel_rfl) (by kernel_rfl) mixed

theorem more_bag (l m : List Fm) (hl : l.length ≤ 100000) (hm : m.length ≤ 100000) : CallOK Try.prog 150 [.list (l.map frm), .list (m.map frm)] [] (.list ((l ++ m).map frm)) [] := by
  have h := Concat_bag [l, m] (by simp) (by simp; omega)
  rw [show [l, m].flatten = l ++ m from by simp] at h
  refine fi150.op ?_
  ((refine Sg.h ?_); try repeat' ((first | (with_reducible first | refine Sg.mk ?_ | refine brA ?_ | refine brE fun _ => ?_ | (refine spl (And.intro ?_ ?_) <;> intro _))) <;> ((try simp (implicitDefEqProofs := false)); (try simp (implicitDefEqProofs := false) (disch := first | assumption | (try simp only [lens]); omega -splitDisjunctions)))))
  refine CL.giv [0] ?_
  ((refine Sg.h ?_); try repeat' ((first | (with_reducible first | refine Sg.mk ?_ | refine brA ?_ | refine brE fun _ => ?_ | (refine spl (And.intro ?_ ?_) <;> intro _)) | (refine clo h ?_)) <;> ((try simp (implicitDefEqProofs := false)); (try simp (implicitDefEqProofs := false) (disch := first | assumption | (try simp only [lens]); omega -splitDisjunctions)))))
def x147 : XC := .seq (.reg [⟨some 3,.box 24 (.tmp 0),none⟩,⟨some 6,.assign (.const (.bool false)),none⟩]) (.seq (.reg [⟨some 7,.fieldAddr 24 (.tmp 3) 0,none⟩,⟨some 8,.load 3 (.tmp 7),none⟩,⟨some 9,.move (.tmp 1),none⟩,⟨some 10,.binOp .eql 3 (.tmp 8) (.tmp 9) 3,none⟩,⟨some 11,.move (.tmp 10),none⟩,⟨some 12,.move (.tmp 2),some (some 11,true)⟩,⟨some 13,.load 24 (.tmp 3),some (some 11,true)⟩,⟨some 14,.call ⟨.value (.func 143),#[.tmp 12,.tmp 13],#[129,24]⟩,some (some 11,true)⟩,⟨some 15,.pick (.tmp 11) (.tmp 14) (.const (.bool false)),none⟩,⟨some 6,.assign (.tmp 15),none⟩]) (.ret))
@[simp] theorem x147_s {C : WC} {e : AE} {s : Store} {K : KS} : type_of% (@X_at C e s K _ _ x147.eq_1) := X_at x147.eq_1
def an147 : Ann := ⟨[], [], []⟩
def cx147 (P : Program) (m : Nat) : WC := ⟨P, m, an147⟩
@[simp] theorem cx147_a {P : Program} {m : Nat} : (cx147 P m).P = P ∧ (cx147 P m).m = m := ⟨rfl, rfl⟩
instance {P : Program} {m f : Nat} [h : EnT P f] : EnT (cx147 P m).P f := h
theorem fi147 : FI Try.prog 147 cx147 x147 [.tmp 6] Try.f147 := fiOf (fun _ _ => rfl) (by decide +kernel) Try.func147 (by kernel_rfl) (by kernel_rfl) mixed

theorem kind_calculus (f : Fm) (k : Int) (l : List Fm) (hl : l.length ≤ 100000) : CallOK Try.prog 147 [.agg (frm f), .int .i64 k, .list (l.map frm)] [] (.bool (decide (f.kind = k) && hasF l f)) [] := by
  have h := has_bag l (by omega) f
  refine fi147.op ?_
  by_cases hk : f.kind = k
  · ((refine Sg.h ?_); try repeat' ((first | (with_reducible first | refine Sg.mk ?_ | refine brA ?_ | refine brE fun _ => ?_ | (refine spl (And.intro ?_ ?_) <;> intro _)) | (refine clo h ?_)) <;> ((try simp (implicitDefEqProofs := false) [hk]); (try simp (implicitDefEqProofs := false) (disch := first | assumption | (try simp only [lens]); omega -splitDisjunctions) [hk]))))
  · ((refine Sg.h ?_); try repeat' ((first | (with_reducible first | refine Sg.mk ?_ | refine brA ?_ | refine brE fun _ => ?_ | (refine spl (And.intro ?_ ?_) <;> intro _)) | (refine clo h ?_)) <;> ((try simp (implicitDefEqProofs := false) [hk]); (try simp (implicitDefEqProofs := false) (disch := first | assumption | (try simp only [lens]); omega -splitDisjunctions) [hk]))))
end Go.Proofs.Ytnoklmapofogeaa
