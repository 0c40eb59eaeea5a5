/-
  slices at strings: IndexFunc, DeleteFunc, Clip; formula: names, told as the caller's own.
-/
import Derived.Test.YtnoklmapofogeaaBtC
import Derived.Test.YtnoklmapofogeaaQTn
namespace Go.Proofs.Ytnoklmapofogeaa
open Go Go.Pv
set_option linter.unusedVariables false
set_option linter.unusedSimpArgs false
set_option maxRecDepth 100000
set_option maxHeartbeats 4000000

def x102_L0 : XC := .seq (.reg [⟨some 9,.binOp .lss 3 (.tmp 8) (.tmp 7) 3,none⟩]) (.seq (.cond (.tmp 9) (.skip) (.exit 0)) (.seq (.block 1 (.seq (.reg [⟨some 10,.move (.tmp 8),none⟩,⟨some 5,.assign (.tmp 10),none⟩]) (.seq (.reg [⟨some 11,.move (.tmp 1),none⟩,⟨some 12,.move (.tmp 0),none⟩,⟨some 13,.move (.tmp 5),none⟩,⟨some 14,.indexAddr 35 (.tmp 12) (.tmp 13),none⟩,⟨some 15,.load 9 (.tmp 14),none⟩,⟨some 16,.call ⟨.value (.tmp 11),#[.tmp 15],#[9]⟩,none⟩]) (.cond (.tmp 16) (.seq (.reg [⟨some 17,.move (.tmp 5),none⟩,⟨some 4,.assign (.tmp 17),none⟩]) (.ret)) (.skip))))) (.reg [⟨some 18,.binOp .add 3 (.tmp 8) (.const (.int .i64 1)) 3,none⟩,⟨some 8,.move (.tmp 18),none⟩])))
def x102 : XC := .seq (.reg [⟨some 4,.assign (.const (.int .i64 0)),none⟩]) (.seq (.seq (.reg [⟨some 6,.move (.tmp 0),none⟩,⟨some 7,.call ⟨.builtin .len,#[.tmp 6],#[35]⟩,none⟩,⟨some 8,.move (.const (.int .i64 0)),none⟩]) (.bloop 0 x102_L0)) (.seq (.reg [⟨some 4,.assign (.const (.int .i64 (-1))),none⟩]) (.ret)))
@[simp] theorem x102_s {C : WC} {e : AE} {s : Store} {K : KS} : type_of% (@X_at C e s K _ _ x102_L0.eq_1) ∧ type_of% (@X_at C e s K _ _ x102.eq_1) := ⟨X_at x102_L0.eq_1, X_at x102.eq_1⟩
def an102 : Ann := ⟨[], [(0, [], [0, 1, 7, 8], [4])], []⟩
def cx102 (P : Program) (m : Nat) : WC := ⟨P, m, an102⟩
@[simp] theorem cx102_a {P : Program} {m : Nat} : (cx102 P m).P = P ∧ (cx102 P m).m = m ∧ (cx102 P m).A.loopOf 0 = ([], [0, 1, 7, 8], [4]) := ⟨rfl, rfl, rfl⟩
instance {P : Program} {m f : Nat} [h : EnT P f] : EnT (cx102 P m).P f := h
theorem chk102 : ∀ c, Try.f102.body = some c → chkC Try.f102.ntmps an102 c = true := by intro c h; obtain rfl := Option.some.inj h; decide +kernel
theorem op102 {args : List PV} {v : PV} (h : X (cx102 Try.prog 0) x102 (argsA 0 args) [] (.fin [.tmp 4] fun v1 s1 => deref s1 6 v1 = v)) (hl : args.length ≤ Try.f102.ntmps := by rw [Try.ntmps102]; simp) : CallOK Try.prog 102 args [] v [] :=
  callX (m := 0) (cx102 Try.prog 0) x102 rfl rfl (by kernel_rfl) Try.func102 rfl rfl hl mixed (chk102 _ rfl) (by rw [Try.results102]; exact h)

/-- the place of the first of a kind -/
def indexP {α : Type} (p : α → Bool) (l : List α) : Int := match l.findIdx? p with
  | some i => i
  | none => -1
theorem indexP_at {α : Type} {p : α → Bool} {l : List α} {i : Nat} (h : i < l.length) (hp : p l[i] = true) (hb : ∀ j (hj : j < i), p (l[j]'(by omega)) = false) : indexP p l = i := by
  unfold indexP
  have : l.findIdx? p = some i := by
    rw [List.findIdx?_eq_some_iff_getElem]
    exact ⟨h, hp, fun j hj => by simp [hb j hj]⟩
  rw [this]
theorem indexP_none {α : Type} {p : α → Bool} {l : List α} (hb : ∀ j (hj : j < l.length), p l[j] = false) : indexP p l = -1 := by
  unfold indexP
  have : l.findIdx? p = none := by
    rw [List.findIdx?_eq_none_iff]
    intro x hx
    obtain ⟨j, hj, rfl⟩ := List.mem_iff_getElem.1 hx
    exact hb j hj
  rw [this]
theorem IndexFunc_strs (l : List ByteArray) (hl : l.length ≤ 1000000) (fid : Nat) [EnT Try.prog fid] (ys : List PV) [hy : FlatL ys] (p : ByteArray → Bool) (h : ∀ a ∈ l, CallOK Try.prog fid (.str a :: ys) [] (.bool (p a)) []) :
    CallOK Try.prog 102 [.list (l.map strRow), .fn (.func fid) [] ys] [] (.int .i64 (indexP p l)) [] := by
  have hcl : ∀ a : ByteArray, ∀ v ∈ .str a :: ys, Closed v := by
    intro a v hv
    rcases List.mem_cons.1 hv with rfl | hv
    · exact (flat_str _).closed
    · exact hy.closed v hv
  refine op102 ?_
  (((try simp (implicitDefEqProofs := false)); (try simp (implicitDefEqProofs := false) (disch := first | assumption | (try simp only [lens]); omega -splitDisjunctions))); all_goals try (repeat' ((first | ((with_reducible first | refine And.intro ?_ ?_ | refine Exists.intro ?_ ?_); first | omega | (simp <;> omega)) | (with_reducible refine spl (And.intro ?_ ?_) <;> intro _)) <;> ((try simp (implicitDefEqProofs := false)); (try simp (implicitDefEqProofs := false) (disch := first | assumption | (try simp only [lens]); omega -splitDisjunctions))))))
  refine W_of fun Q hQ => ?_
  have main : ∀ n i, i + n = l.length → (∀ j (hj : j < i) (hl : j < l.length), p l[j] = false) → Q [(0, .list (l.map strRow)), (1, .fn (.func fid) [] ys), (7, .int .i64 (l.length : Int)), (8, .int .i64 (i : Int))] [] := by
    intro n
    induction n with
    | zero =>
      intro i hi hb
      have hv := indexP_none fun j hj => hb j (by omega) hj
      generalize indexP p l = v at *
      apply hQ
      subst hv
      (((try simp (implicitDefEqProofs := false)); (try simp (implicitDefEqProofs := false) (disch := first | assumption | (try simp only [lens]); omega -splitDisjunctions))); all_goals try (repeat' ((first | ((with_reducible first | refine And.intro ?_ ?_ | refine Exists.intro ?_ ?_); first | omega | (simp <;> omega)) | (with_reducible refine spl (And.intro ?_ ?_) <;> intro _)) <;> ((try simp (implicitDefEqProofs := false)); (try simp (implicitDefEqProofs := false) (disch := first | assumption | (try simp only [lens]); omega -splitDisjunctions))))))
    | succ n ih =>
      intro i hi hb
      have hil : i < l.length := by omega
      have hc := h _ (List.getElem_mem hil)
      have ih := ih (i + 1) (by omega)
      have hat := fun hp => indexP_at hil hp fun j hj => hb j hj (by omega)
      generalize indexP p l = v at *
      cases hp : p l[i] with
      | true =>
        have hv := hat hp
        rw [hp] at hc
        apply hQ
        clear hQ
        subst hv
        (((try simp (implicitDefEqProofs := false) [hil]); (try simp (implicitDefEqProofs := false) (disch := first | assumption | (try simp only [lens]); omega -splitDisjunctions) [hil])); all_goals try (repeat' ((first | ((with_reducible first | refine And.intro ?_ ?_ | refine Exists.intro ?_ ?_); first | omega | (simp <;> omega)) | (with_reducible refine spl (And.intro ?_ ?_) <;> intro _)) <;> ((try simp (implicitDefEqProofs := false) [hil]); (try simp (implicitDefEqProofs := false) (disch := first | assumption | (try simp only [lens]); omega -splitDisjunctions) [hil])))))
        refine CL.clo hc ?_ (hcl _)
        (((try simp (implicitDefEqProofs := false)); (try simp (implicitDefEqProofs := false) (disch := first | assumption | (try simp only [lens]); omega -splitDisjunctions))); all_goals try (repeat' ((first | ((with_reducible first | refine And.intro ?_ ?_ | refine Exists.intro ?_ ?_); first | omega | (simp <;> omega)) | (with_reducible refine spl (And.intro ?_ ?_) <;> intro _)) <;> ((try simp (implicitDefEqProofs := false)); (try simp (implicitDefEqProofs := false) (disch := first | assumption | (try simp only [lens]); omega -splitDisjunctions))))))
      | false =>
        have ih := ih fun j hj hl => by
          rcases Nat.lt_or_ge j i with hji | hji
          · exact hb j hji hl
          · have : j = i := by omega
            subst this; exact hp
        rw [hp] at hc
        apply hQ
        clear hQ
        (((try simp (implicitDefEqProofs := false) [hil]); (try simp (implicitDefEqProofs := false) (disch := first | assumption | (try simp only [lens]); omega -splitDisjunctions) [hil])); all_goals try (repeat' ((first | ((with_reducible first | refine And.intro ?_ ?_ | refine Exists.intro ?_ ?_); first | omega | (simp <;> omega)) | (with_reducible refine spl (And.intro ?_ ?_) <;> intro _)) <;> ((try simp (implicitDefEqProofs := false) [hil]); (try simp (implicitDefEqProofs := false) (disch := first | assumption | (try simp only [lens]); omega -splitDisjunctions) [hil])))))
        refine CL.clo hc ?_ (hcl _)
        (((try simp (implicitDefEqProofs := false)); (try simp (implicitDefEqProofs := false) (disch := first | assumption | (try simp only [lens]); omega -splitDisjunctions))); all_goals try (repeat' ((first | ((with_reducible first | refine And.intro ?_ ?_ | refine Exists.intro ?_ ?_); first | omega | (simp <;> omega)) | (with_reducible refine spl (And.intro ?_ ?_) <;> intro _)) <;> ((try simp (implicitDefEqProofs := false)); (try simp (implicitDefEqProofs := false) (disch := first | assumption | (try simp only [lens]); omega -splitDisjunctions))))))
        all_goals first | exact ih | (refine at2 ih ?_ ?_ <;> simp; done) | (exfalso; first | omega | (simp_all; done) | (simp_all; omega))
  all_goals first | exact main _ 0 (Nat.zero_add _) (fun j hj => by omega) | (refine at2 main _ 0 (Nat.zero_add _) (fun j hj => by omega) ?_ ?_ <;> simp; done) | (exfalso; first | omega | (simp_all; done) | (simp_all; omega))
def x81_T1 : XC := .seq (.reg [⟨some 36,.move (.tmp 0),none⟩,⟨some 37,.move (.tmp 5),none⟩,⟨some 38,.slice 35 (.tmp 36) (some (.tmp 37)) none none,none⟩,⟨none,.call ⟨.builtin .clear,#[.tmp 38],#[35]⟩,none⟩]) (.seq (.reg [⟨some 39,.move (.tmp 0),none⟩,⟨some 40,.move (.tmp 5),none⟩,⟨some 41,.slice 35 (.tmp 39) none (some (.tmp 40)) none,none⟩,⟨some 4,.assign (.tmp 41),none⟩]) (.ret))
def x81_L0 : XC := .seq (.seq (.reg [⟨some 16,.move (.tmp 6),none⟩,⟨some 17,.move (.tmp 0),none⟩,⟨some 18,.call ⟨.builtin .len,#[.tmp 17],#[35]⟩,none⟩,⟨some 19,.binOp .lss 3 (.tmp 16) (.tmp 18) 3,none⟩]) (.cond (.tmp 19) (.skip) (.exit 0))) (.seq (.block 1 (.seq (.reg [⟨some 22,.move (.tmp 0),none⟩,⟨some 23,.move (.tmp 6),none⟩,⟨some 24,.indexAddr 35 (.tmp 22) (.tmp 23),none⟩,⟨some 25,.load 9 (.tmp 24),none⟩,⟨some 7,.assign (.tmp 25),none⟩]) (.seq (.reg [⟨some 26,.move (.tmp 1),none⟩,⟨some 27,.move (.tmp 7),none⟩,⟨some 28,.call ⟨.value (.tmp 26),#[.tmp 27],#[9]⟩,none⟩,⟨some 29,.unOp .not 4 (.tmp 28),none⟩]) (.cond (.tmp 29) (.seq (.reg [⟨some 30,.move (.tmp 0),none⟩,⟨some 31,.move (.tmp 5),none⟩,⟨some 32,.move (.tmp 7),none⟩,⟨some 33,.indexAddr 35 (.tmp 30) (.tmp 31),none⟩,⟨none,.store 9 (.tmp 33) (.tmp 32),none⟩]) (.reg [⟨some 34,.move (.tmp 5),none⟩,⟨some 35,.binOp .add 3 (.tmp 34) (.const (.int .i64 1)) 3,none⟩,⟨some 5,.assign (.tmp 35),none⟩])) (.skip))))) (.reg [⟨some 20,.move (.tmp 6),none⟩,⟨some 21,.binOp .add 3 (.tmp 20) (.const (.int .i64 1)) 3,none⟩,⟨some 6,.assign (.tmp 21),none⟩]))
def x81 : XC := .seq (.reg [⟨some 4,.assign (.const (.slice none 0 0)),none⟩]) (.seq (.reg [⟨some 8,.move (.tmp 0),none⟩,⟨some 9,.move (.tmp 1),none⟩,⟨some 10,.call ⟨.value (.func 102),#[.tmp 8,.tmp 9],#[35,47]⟩,none⟩,⟨some 5,.assign (.tmp 10),none⟩]) (.seq (.seq (.reg [⟨some 11,.move (.tmp 5),none⟩,⟨some 12,.binOp .eql 3 (.tmp 11) (.const (.int .i64 (-1))) 3,none⟩]) (.cond (.tmp 12) (.seq (.reg [⟨some 13,.move (.tmp 0),none⟩,⟨some 4,.assign (.tmp 13),none⟩]) (.ret)) (.skip))) (.seq (.seq (.reg [⟨some 14,.move (.tmp 5),none⟩,⟨some 15,.binOp .add 3 (.tmp 14) (.const (.int .i64 1)) 3,none⟩,⟨some 6,.assign (.tmp 15),none⟩]) (.bloop 0 x81_L0)) (x81_T1))))
@[simp] theorem x81_s {C : WC} {e : AE} {s : Store} {K : KS} : type_of% (@X_at C e s K _ _ x81_T1.eq_1) ∧ type_of% (@X_at C e s K _ _ x81_L0.eq_1) ∧ type_of% (@X_at C e s K _ _ x81.eq_1) := ⟨X_at x81_T1.eq_1, X_at x81_L0.eq_1, X_at x81.eq_1⟩
def an81 : Ann := ⟨[], [(0, [], [0, 1, 5, 6], [0, 5])], []⟩
def cx81 (P : Program) (m : Nat) : WC := ⟨P, m, an81⟩
@[simp] theorem cx81_a {P : Program} {m : Nat} : (cx81 P m).P = P ∧ (cx81 P m).m = m ∧ (cx81 P m).A.loopOf 0 = ([], [0, 1, 5, 6], [0, 5]) := ⟨rfl, rfl, rfl⟩
instance {P : Program} {m f : Nat} [h : EnT P f] : EnT (cx81 P m).P f := h
theorem chk81 : ∀ c, Try.f81.body = some c → chkC Try.f81.ntmps an81 c = true := by intro c h; obtain rfl := Option.some.inj h; decide +kernel
theorem og81 {args : List PV} {v : PV} {s s' : Store} (h : X (cx81 Try.prog s.length) x81 (argsA 0 args) s (.fin [.tmp 4] (gcFin s.length v s'))) (hl : args.length ≤ Try.f81.ntmps := by rw [Try.ntmps81]; simp) : CallOK Try.prog 81 args s v s' :=
  callXG (m := 0) (cx81 Try.prog s.length) x81 rfl rfl (by kernel_rfl) Try.func81 rfl rfl hl mixed (chk81 _ rfl) (by rw [Try.results81]; exact h)

theorem DeleteFunc_strs (l rest : List ByteArray) (h2 : l.length ≤ 1000000) (fid : Nat) [EnT Try.prog fid] (ys : List PV) [hy : FlatL ys] (p : ByteArray → Bool) (h : ∀ a ∈ l, CallOK Try.prog fid (.str a :: ys) [] (.bool (p a)) []) : 
    CallOK Try.prog 81 [.sl 0 0 l.length, .fn (.func fid) [] ys] [.rows 1 ((l ++ rest).map strRow)] (.sl 0 0 (l.filter fun a => !p a).length) [.rows 1 (((l.filter fun a => !p a) ++ List.replicate (l.length - (l.filter fun a => !p a).length) (⟨#[]⟩ : ByteArray) ++ rest).map strRow)] := by
  have hi := IndexFunc_strs l h2 fid ys p h
  have hcl : ∀ a : ByteArray, ∀ v ∈ .str a :: ys, Closed v := by
    intro a v hv
    rcases List.mem_cons.1 hv with rfl | hv
    · exact (flat_str _).closed
    · exact hy.closed v hv
  refine og81 ?_
  (((try simp (implicitDefEqProofs := false)); (try simp (implicitDefEqProofs := false) (disch := first | assumption | (try simp only [lens]); omega -splitDisjunctions))); all_goals try (repeat' ((first | ((with_reducible first | refine And.intro ?_ ?_ | refine Exists.intro ?_ ?_); first | omega | (simp <;> omega)) | (with_reducible refine spl (And.intro ?_ ?_) <;> intro _)) <;> ((try simp (implicitDefEqProofs := false)); (try simp (implicitDefEqProofs := false) (disch := first | assumption | (try simp only [lens]); omega -splitDisjunctions))))))
  refine CL.look (v := .int .i64 (indexP p l)) 6 (by simpa using hi) (flat_int _ _) ?_
  cases hf : l.findIdx? p with
  | none =>
    have hv : indexP p l = -1 := by unfold indexP; rw [hf]
    have hfil : l.filter (fun a => !p a) = l := by
      rw [List.filter_eq_self]
      intro a ha
      rw [List.findIdx?_eq_none_iff] at hf
      simp [hf a ha]
    rw [hv, hfil]
    (((try simp (implicitDefEqProofs := false)); (try simp (implicitDefEqProofs := false) (disch := first | assumption | (try simp only [lens]); omega -splitDisjunctions))); all_goals try (repeat' ((first | ((with_reducible first | refine And.intro ?_ ?_ | refine Exists.intro ?_ ?_); first | omega | (simp <;> omega)) | (with_reducible refine spl (And.intro ?_ ?_) <;> intro _)) <;> ((try simp (implicitDefEqProofs := false)); (try simp (implicitDefEqProofs := false) (disch := first | assumption | (try simp only [lens]); omega -splitDisjunctions))))))
  | some i0 =>
    have hv : indexP p l = i0 := by unfold indexP; rw [hf]
    rw [List.findIdx?_eq_some_iff_getElem] at hf
    obtain ⟨h3, h4, h5⟩ := hf
    rw [hv]
    (((try simp (implicitDefEqProofs := false)); (try simp (implicitDefEqProofs := false) (disch := first | assumption | (try simp only [lens]); omega -splitDisjunctions))); all_goals try (repeat' ((first | ((with_reducible first | refine And.intro ?_ ?_ | refine Exists.intro ?_ ?_); first | omega | (simp <;> omega)) | (with_reducible refine spl (And.intro ?_ ?_) <;> intro _)) <;> ((try simp (implicitDefEqProofs := false)); (try simp (implicitDefEqProofs := false) (disch := first | assumption | (try simp only [lens]); omega -splitDisjunctions))))))
    refine W_of fun Q hQ => ?_
    have main : ∀ n j (mid : List ByteArray), j + n = l.length → mid.length + ((l.take j).filter fun a => !p a).length = j → 0 < mid.length →
        Q [(0, .sl 0 0 l.length), (1, .fn (.func fid) [] ys), (5, .int .i64 (((l.take j).filter fun a => !p a).length : Int)), (6, .int .i64 (j : Int))] [.rows 1 (((l.take j).filter fun a => !p a).map strRow ++ (mid.map strRow ++ ((l.drop j).map strRow ++ rest.map strRow)))] := by
      intro n
      induction n with
      | zero =>
        intro j mid hj hm h0
        rw [List.take_of_length_le (show l.length ≤ j by omega)] at hm ⊢
        rw [List.drop_of_length_le (show l.length ≤ j by omega)]
        generalize (l.filter fun a => !p a) = F at *
        apply hQ
        clear hQ hi h hcl
        (((try simp (implicitDefEqProofs := false)); (try simp (implicitDefEqProofs := false) (disch := first | assumption | (try simp only [lens]); omega -splitDisjunctions))); all_goals try (repeat' ((first | ((with_reducible first | refine And.intro ?_ ?_ | refine Exists.intro ?_ ?_); first | omega | (simp <;> omega)) | (with_reducible refine spl (And.intro ?_ ?_) <;> intro _)) <;> ((try simp (implicitDefEqProofs := false)); (try simp (implicitDefEqProofs := false) (disch := first | assumption | (try simp only [lens]); omega -splitDisjunctions))))))
        have e1 : F.length + mid.length = l.length := by omega
        have e2 : ∀ X : List (List PV), List.take F.length (F.map strRow ++ X) = F.map strRow := fun X => List.take_left' (by simp)
        have e3 : List.drop l.length (F.map strRow ++ (mid.map strRow ++ rest.map strRow)) = rest.map strRow := by
          rw [← List.append_assoc]
          exact List.drop_left' (by simp; omega)
        rw [e2, e3]
      | succ n ih =>
        intro j mid hj hm h0
        have hc := h _ (List.getElem_mem (show j < l.length by omega))
        have hjl : j < l.length := by omega
        have hdr : l.drop j = l[j] :: l.drop (j + 1) := List.drop_eq_getElem_cons hjl
        have htk := take_snoc hjl
        have ih := ih (j + 1)
        rw [htk] at ih
        simp only [List.filter_append, List.filter_cons, List.filter_nil] at ih
        generalize hF : (l.take j).filter (fun a => !p a) = F at *
        rw [hdr]
        have hjm : j - F.length = mid.length := by omega
        obtain ⟨m, mid', rfl⟩ : ∃ m mid', mid = m :: mid' := by
          cases mid with
          | nil => cases h0
          | cons m r => exact ⟨m, r, rfl⟩
        have hlm : mid'.length + 1 + F.length = j := by simpa using hm
        cases hp : p l[j] with
        | true =>
          rw [hp] at ih hc
          simp only [Bool.not_true, Bool.false_eq_true, if_false, List.append_nil] at ih
          have ih := ih (m :: (mid' ++ [l[j]])) (by omega) (by simp; omega) (by simp)
          generalize l[j] = x at *
          generalize l.drop (j + 1) = R at *
          apply hQ
          clear hQ hi h htk hdr hF hm h5 h4 hp
          (((try simp (implicitDefEqProofs := false) [hjm, hjl]); (try simp (implicitDefEqProofs := false) (disch := first | assumption | (try simp only [lens]); omega -splitDisjunctions) [hjm, hjl])); all_goals try (repeat' ((first | ((with_reducible first | refine And.intro ?_ ?_ | refine Exists.intro ?_ ?_); first | omega | (simp <;> omega)) | (with_reducible refine spl (And.intro ?_ ?_) <;> intro _)) <;> ((try simp (implicitDefEqProofs := false) [hjm, hjl]); (try simp (implicitDefEqProofs := false) (disch := first | assumption | (try simp only [lens]); omega -splitDisjunctions) [hjm, hjl])))))
          refine CL.clo hc ?_ (hcl _)
          (((try simp (implicitDefEqProofs := false) [hjm]); (try simp (implicitDefEqProofs := false) (disch := first | assumption | (try simp only [lens]); omega -splitDisjunctions) [hjm])); all_goals try (repeat' ((first | ((with_reducible first | refine And.intro ?_ ?_ | refine Exists.intro ?_ ?_); first | omega | (simp <;> omega)) | (with_reducible refine spl (And.intro ?_ ?_) <;> intro _)) <;> ((try simp (implicitDefEqProofs := false) [hjm]); (try simp (implicitDefEqProofs := false) (disch := first | assumption | (try simp only [lens]); omega -splitDisjunctions) [hjm])))))
          all_goals first | exact ih | (refine at2 ih ?_ ?_ <;> simp; done) | (exfalso; first | omega | (simp_all; done) | (simp_all; omega))
        | false =>
          rw [hp] at ih hc
          simp only [Bool.not_false, if_true] at ih
          have ih := ih (mid' ++ [l[j]]) (by omega) (by simp; omega) (by simp)
          generalize l[j] = x at *
          generalize l.drop (j + 1) = R at *
          apply hQ
          clear hQ hi h htk hdr hF hm h5 h4 hp
          (((try simp (implicitDefEqProofs := false) [hjm, hjl]); (try simp (implicitDefEqProofs := false) (disch := first | assumption | (try simp only [lens]); omega -splitDisjunctions) [hjm, hjl])); all_goals try (repeat' ((first | ((with_reducible first | refine And.intro ?_ ?_ | refine Exists.intro ?_ ?_); first | omega | (simp <;> omega)) | (with_reducible refine spl (And.intro ?_ ?_) <;> intro _)) <;> ((try simp (implicitDefEqProofs := false) [hjm, hjl]); (try simp (implicitDefEqProofs := false) (disch := first | assumption | (try simp only [lens]); omega -splitDisjunctions) [hjm, hjl])))))
          refine CL.clo hc ?_ (hcl _)
          (((try simp (implicitDefEqProofs := false) [hjm]); (try simp (implicitDefEqProofs := false) (disch := first | assumption | (try simp only [lens]); omega -splitDisjunctions) [hjm])); all_goals try (repeat' ((first | ((with_reducible first | refine And.intro ?_ ?_ | refine Exists.intro ?_ ?_); first | omega | (simp <;> omega)) | (with_reducible refine spl (And.intro ?_ ?_) <;> intro _)) <;> ((try simp (implicitDefEqProofs := false) [hjm]); (try simp (implicitDefEqProofs := false) (disch := first | assumption | (try simp only [lens]); omega -splitDisjunctions) [hjm])))))
          all_goals first | exact ih | (refine at2 ih ?_ ?_ <;> simp; done) | (exfalso; first | omega | (simp_all; done) | (simp_all; omega))
    have hfi : (l.take i0).filter (fun a => !p a) = l.take i0 := by
      rw [List.filter_eq_self]
      intro a ha
      obtain ⟨k, hk, rfl⟩ := List.mem_iff_getElem.1 ha
      have := h5 k (by simp at hk; omega)
      simp at this ⊢; exact this
    have hfj : (l.take (i0 + 1)).filter (fun a => !p a) = l.take i0 := by
      rw [take_snoc h3, List.filter_append, hfi]; simp [h4]
    have m0 := main (l.length - (i0 + 1)) (i0 + 1) [l[i0]] (by omega) (by rw [hfj]; simp; omega) (by simp)
    rw [hfj] at m0
    refine at2 m0 ?_ ?_
    · simp; omega
    · have : l = l.take i0 ++ ([l[i0]] ++ l.drop (i0 + 1)) := by
        rw [List.singleton_append, ← List.drop_eq_getElem_cons h3, List.take_append_drop]
      have e2 := congrArg (List.map strRow) this
      simp only [List.map_append, List.map_cons, List.map_nil, List.map_take, List.map_drop, List.append_assoc] at e2 ⊢
      conv => rhs; rw [e2]
      simp only [List.append_assoc]
def x93 : XC := .seq (.reg [⟨some 2,.assign (.const (.slice none 0 0)),none⟩]) (.seq (.reg [⟨some 3,.move (.tmp 0),none⟩,⟨some 4,.move (.tmp 0),none⟩,⟨some 5,.call ⟨.builtin .len,#[.tmp 4],#[35]⟩,none⟩,⟨some 6,.move (.tmp 0),none⟩,⟨some 7,.call ⟨.builtin .len,#[.tmp 6],#[35]⟩,none⟩,⟨some 8,.slice 35 (.tmp 3) none (some (.tmp 5)) (some (.tmp 7)),none⟩,⟨some 2,.assign (.tmp 8),none⟩]) (.ret))
@[simp] theorem x93_s {C : WC} {e : AE} {s : Store} {K : KS} : type_of% (@X_at C e s K _ _ x93.eq_1) := X_at x93.eq_1
def an93 : Ann := ⟨[], [], []⟩
def cx93 (P : Program) (m : Nat) : WC := ⟨P, m, an93⟩
@[simp] theorem cx93_a {P : Program} {m : Nat} : (cx93 P m).P = P ∧ (cx93 P m).m = m := ⟨rfl, rfl⟩
instance {P : Program} {m f : Nat} [h : EnT P f] : EnT (cx93 P m).P f := h
theorem chk93 : ∀ c, Try.f93.body = some c → chkC Try.f93.ntmps an93 c = true := by intro c h; obtain rfl := Option.some.inj h; decide +kernel
theorem op93 {args : List PV} {v : PV} (h : X (cx93 Try.prog 0) x93 (argsA 0 args) [] (.fin [.tmp 2] fun v1 s1 => deref s1 6 v1 = v)) (hl : args.length ≤ Try.f93.ntmps := by rw [Try.ntmps93]; simp) : CallOK Try.prog 93 args [] v [] :=
  callX (m := 0) (cx93 Try.prog 0) x93 rfl rfl (by kernel_rfl) Try.func93 rfl rfl hl mixed (chk93 _ rfl) (by rw [Try.results93]; exact h)

theorem Clip_strs (l : List ByteArray) (hl : l.length ≤ 1000000) : CallOK Try.prog 93 [.list (l.map strRow)] [] (.clip 1 (l.map strRow)) [] := by
  refine op93 ?_
  (((try simp (implicitDefEqProofs := false)); (try simp (implicitDefEqProofs := false) (disch := first | assumption | (try simp only [lens]); omega -splitDisjunctions))); all_goals try (repeat' ((first | ((with_reducible first | refine And.intro ?_ ?_ | refine Exists.intro ?_ ?_); first | omega | (simp <;> omega)) | (with_reducible refine spl (And.intro ?_ ?_) <;> intro _)) <;> ((try simp (implicitDefEqProofs := false)); (try simp (implicitDefEqProofs := false) (disch := first | assumption | (try simp only [lens]); omega -splitDisjunctions))))))
  all_goals trace_state
end Go.Proofs.Ytnoklmapofogeaa
