import Derived.Test.YtcllmionhlmjfaaFFpA
set_option linter.unusedVariables false
set_option linter.unusedSimpArgs false
set_option maxRecDepth 100000
set_option maxHeartbeats 4000000
namespace Go.Proofs.Ytcllmionhlmjfaa
open Go Go.Pv
def stopV (p : Nat) : Value := .iface 82 (.agg #[.int .i64 1, .int .i64 (p : Int)])
@[simp] theorem xi_stop (v : PV) : xiface Try.prog 82 v = some (.iface 82 v) := by kernel_rfl
@[simp] theorem xa_stop (v : PV) : xassert Try.prog 82 true (.iface 82 v) = some (.tuple [v, .bool true]) := by kernel_rfl
theorem pan_stop (p : Nat) : panP (.iface 82 (.agg [.int .i64 1, .int .i64 (p : Int)])) = some (stopV p) := rfl
def x58 : XC := .reg [⟨some 2,.move (.tmp 0),none⟩,⟨some 3,.nilCheck (.tmp 2),none⟩,⟨some 4,.fieldAddr 85 (.tmp 3) 1,none⟩,⟨some 5,.load 3 (.tmp 4),none⟩,⟨some 6,.call ⟨.value (.func 50),#[.const (.int .i64 1),.tmp 5],#[3,3]⟩,none⟩,⟨some 7,.build 82 #[(0,.tmp 6)],none⟩,⟨some 8,.makeInterface 82 (.tmp 7),none⟩,⟨none,.panic (.tmp 8),none⟩]
@[simp] theorem x58_s {C e s K} : type_of% (@X_at C e s K _ _ x58.eq_1) := X_at x58.eq_1
def an58 : Ann := ⟨[], [], []⟩
theorem fi58 : FI Try.prog 58 (cxA an58) x58 [] Try.f58 := fiA Try.func58 mixed
theorem fail_reader (t : ByteArray) (i : Nat) : CallPan Try.prog 58 [.ptr 0 0 0] [rd t i] (stopV i) [rd t i] := by
 have h1 := fault_formula 1 i []
 refine fi58.pan [] ?_
 unfold rd
 ((refine Sg.h ?_); try repeat' ((first | (with_reducible first | refine brA ?_ | refine brE fun _ => ?_ | (refine spl ⟨?_, ?_⟩ <;> intro _)) | refine clo h1 ?_) <;> ((try simp -implicitDefEqProofs [pan_stop]); (try simp -implicitDefEqProofs (disch := first | assumption | (try simp only [lens]); omega -splitDisjunctions) [pan_stop]))))
abbrev Res := Except Nat (Fm × Nat)
def Told (F : FuncId) (t : ByteArray) (i : Nat) : Res → Prop
 | .ok (f, j) => CallOK Try.prog F [.ptr 0 0 0] [rd t i] (.agg (frm f)) [rd t j] ∧ i ≤ j ∧ j ≤ t.size
 | .error p => CallPan Try.prog F [.ptr 0 0 0] [rd t i] (stopV p) [rd t p]
def wR (P : Program) (rs : List ResultVar) (m : Nat) (t : ByteArray) (R : Res) : Exit → AE → Store → Prop := fun x e s => match R with
 | .ok (f, j) => wfin P rs (gsFin m (.agg (frm f)) [rd t j]) x e s
 | .error p => panFin [] m (stopV p) [rd t p] x s
section
variable {P : Program} {rs : List ResultVar} {m : Nat} {t : ByteArray} {f : Fm} {j p : Nat} {e : AE} {s : Store} {v : Value}
@[simp] theorem wR_on : wR P rs m t (.ok (f, j)) .normal e s = FN (xres P (envOf e) s rs) (gsFin m (.agg (frm f)) [rd t j]) s := rfl
@[simp] theorem wR_or : wR P rs m t (.ok (f, j)) .ret e s = FN (xres P (envOf e) s rs) (gsFin m (.agg (frm f)) [rd t j]) s := rfl
@[simp] theorem wR_ep : wR P rs m t (.error p) (pan1 v) e s = panFin [] m (stopV p) [rd t p] (pan1 v) s := rfl
end
theorem told_of {F : FuncId} {C : Program → Nat → WC} {x : XC} {rs : List ResultVar} {fn : Func} (i : FI Try.prog F C x rs fn) {t : ByteArray} {k : Nat} {R : Res} (h : X (C Try.prog 1) x (argsA 0 [.ptr 0 0 0]) [rd t k] (.fany (wR (C Try.prog 1).P rs 1 t R))) (hR : ∀ f j, R = .ok (f, j) → k ≤ j ∧ j ≤ t.size) (hl : Nat.ble 1 fn.ntmps = true := by exact rfl) : Told F t k R := by
 cases R with
 | ok q =>
  obtain ⟨f, j⟩ := q
  have h' : X (C Try.prog 1) x (argsA 0 [.ptr 0 0 0]) [rd t k] (.fin rs (gsFin 1 (.agg (frm f)) [rd t j])) := by unfold X at h ⊢; exact h
  exact ⟨i.ogs (s := [rd t k]) h' hl, hR f j rfl⟩
 | error p =>
  have h' : X (C Try.prog 1) x (argsA 0 [.ptr 0 0 0]) [rd t k] (.fpan (panFin [] 1 (stopV p) [rd t p])) := by unfold X at h ⊢; exact h
  exact i.pan (s := [rd t k]) [] h' hl
def opL (t : ByteArray) (w : ByteArray) (k : Int) (p : Nat → Res) : Nat → Fm → Nat → Res
 | 0, a, i => .error i
 | n + 1, a, i => if hp t (bl t i) w = true then (match p (bl t i + w.size) with
  | .ok (g, j) => opL t w k p n (.mk k ⟨#[]⟩ [a, g]) j
  | .error q => .error q) else .ok (a, bl t i)
def opP (t : ByteArray) (w : ByteArray) (k : Int) (p : Nat → Res) (i : Nat) : Res := match p i with
 | .ok (a, j) => opL t w k p (t.size + 1) a j
 | .error q => .error q
def thenP (t : ByteArray) (po pt : Nat → Res) (i : Nat) : Res := match po i with
 | .ok (a, j) => if hp t (bl t j) ⟨#[45, 62]⟩ = true then (match pt (bl t j + 2) with
  | .ok (g, k) => .ok (.mk 7 ⟨#[]⟩ [a, g], k)
  | .error q => .error q) else .ok (a, bl t j)
 | .error q => .error q
theorem opL_le {t w : ByteArray} {k : Int} {p : Nat → Res} {lo : Nat} (h : ∀ i, lo ≤ i → i ≤ t.size → ∀ f j, p i = .ok (f, j) → i ≤ j ∧ j ≤ t.size) : ∀ n a i, lo ≤ i → i ≤ t.size → ∀ f j, opL t w k p n a i = .ok (f, j) → i ≤ j ∧ j ≤ t.size
 | 0, a, i, _, _, f, j, e => by cases e
 | n + 1, a, i, hl, hi, f, j, e => by
  have h1 := bl_ge t i
  have h2 := bl_le hi
  unfold opL at e
  split at e
  ·rename_i hh
   have h3 : bl t i + w.size ≤ t.size := (of_decide_eq_true hh).1
   split at e
   ·rename_i g q hq
    have h4 := h _ (by omega) h3 _ _ hq
    have h5 := opL_le h n _ q (by omega) h4.2 f j e
    omega
   ·cases e
  ·cases e; omega
theorem opP_le {t w : ByteArray} {k : Int} {p : Nat → Res} {lo : Nat} (h : ∀ i, lo ≤ i → i ≤ t.size → ∀ f j, p i = .ok (f, j) → i ≤ j ∧ j ≤ t.size) (i : Nat) (hl : lo ≤ i) (hi : i ≤ t.size) : ∀ f j, opP t w k p i = .ok (f, j) → i ≤ j ∧ j ≤ t.size := by
 intro f j e
 unfold opP at e
 split at e
 ·rename_i a q hq
  have h1 := h i hl hi _ _ hq
  have h2 := opL_le h _ a q (by omega) h1.2 f j e
  omega
 ·cases e
theorem thenP_le {t : ByteArray} {po pt : Nat → Res} {i : Nat} (hi : i ≤ t.size) (h : ∀ f j, po i = .ok (f, j) → i ≤ j ∧ j ≤ t.size) (h2 : ∀ k, i < k → k ≤ t.size → ∀ f j, pt k = .ok (f, j) → k ≤ j ∧ j ≤ t.size) : ∀ f j, thenP t po pt i = .ok (f, j) → i ≤ j ∧ j ≤ t.size := by
 intro f j e
 unfold thenP at e
 split at e
 ·rename_i a q hq
  have h1 := h _ _ hq
  have h3 := bl_ge t q
  have h4 := bl_le h1.2
  split at e
  ·rename_i hh
   have h5 : bl t q + 2 ≤ t.size := (of_decide_eq_true hh).1
   split at e
   ·rename_i g r hr
    have h6 := h2 _ (by omega) h5 _ _ hr
    cases e; omega
   ·cases e
  ·cases e; omega
 ·cases e
def x82 : XC := .seq (.reg [⟨some 4,.box 24 (.tmp 1),none⟩,⟨some 5,.box 24 (.tmp 2),none⟩,⟨some 6,.alloc 24,none⟩]) (.seq (.reg [⟨some 7,.move (.tmp 0),none⟩,⟨some 8,.load 24 (.tmp 4),none⟩,⟨some 9,.load 24 (.tmp 5),none⟩,⟨some 10,.buildSlice 22 2 #[(0,.tmp 8),(1,.tmp 9)],none⟩,⟨some 11,.build 24 #[(0,.tmp 7),(2,.tmp 10)],none⟩,⟨none,.store 24 (.tmp 6) (.tmp 11),none⟩]) .ret)
@[simp] theorem x82_s {C e s K} : type_of% (@X_at C e s K _ _ x82.eq_1) := X_at x82.eq_1
def an82 : Ann := ⟨[], [], []⟩
theorem fi82 : FI Try.prog 82 (cxA an82) x82 [.cell 6 24] Try.f82 := fiA Try.func82 mixed
theorem two_formula (k : Int) (a b : Fm) : CallOK Try.prog 82 [.int .i64 k, .agg (frm a), .agg (frm b)] [] (.agg (frm (.mk k ⟨#[]⟩ [a, b]))) [] := by
 refine fi82.op ?_
 ((refine Sg.h ?_); try repeat' ((first | (with_reducible first | refine brA ?_ | refine brE fun _ => ?_ | (refine spl ⟨?_, ?_⟩ <;> intro _))) <;> ((try simp -implicitDefEqProofs); (try simp -implicitDefEqProofs (disch := first | assumption | (try simp only [lens]); omega -splitDisjunctions)))))
 rfl
def x146 : XC := .seq (.reg [⟨some 3,.box 24 (.tmp 1),none⟩,⟨some 4,.alloc 24,none⟩]) (.seq (.reg [⟨some 5,.move (.tmp 0),none⟩,⟨some 6,.load 24 (.tmp 3),none⟩,⟨some 7,.buildSlice 22 1 #[(0,.tmp 6)],none⟩,⟨some 8,.build 24 #[(0,.tmp 5),(2,.tmp 7)],none⟩,⟨none,.store 24 (.tmp 4) (.tmp 8),none⟩]) .ret)
@[simp] theorem x146_s {C e s K} : type_of% (@X_at C e s K _ _ x146.eq_1) := X_at x146.eq_1
def an146 : Ann := ⟨[], [], []⟩
theorem fi146 : FI Try.prog 146 (cxA an146) x146 [.cell 4 24] Try.f146 := fiA Try.func146 mixed
theorem one_formula (k : Int) (a : Fm) : CallOK Try.prog 146 [.int .i64 k, .agg (frm a)] [] (.agg (frm (.mk k ⟨#[]⟩ [a]))) [] := by
 refine fi146.op ?_
 ((refine Sg.h ?_); try repeat' ((first | (with_reducible first | refine brA ?_ | refine brE fun _ => ?_ | (refine spl ⟨?_, ?_⟩ <;> intro _))) <;> ((try simp -implicitDefEqProofs); (try simp -implicitDefEqProofs (disch := first | assumption | (try simp only [lens]); omega -splitDisjunctions)))))
 rfl
def x106_T1 : XC := .seq (.reg [⟨some 12,.load 24 (.tmp 3),none⟩,⟨none,.store 24 (.tmp 2) (.tmp 12),none⟩]) .ret
def x106_L0 : XC := .seq (.seq (.reg [⟨some 6,.move (.tmp 0),none⟩,⟨some 7,.call ⟨.value (.func 81),#[.tmp 6,.const (.string ⟨#[38]⟩)],#[83,9]⟩,none⟩]) (.cond (.tmp 7) .skip (.exit 0))) (.block 1 (.drawn 3 [⟨some 8,.load 24 (.tmp 3),none⟩,⟨some 9,.move (.tmp 0),none⟩,⟨some 10,.call ⟨.value (.func 128),#[.tmp 9],#[83]⟩,none⟩,⟨some 11,.call ⟨.value (.func 82),#[.const (.int .i64 5),.tmp 8,.tmp 10],#[3,24,24]⟩,none⟩,⟨none,.store 24 (.tmp 3) (.tmp 11),none⟩]))
def x106 : XC := .seq (.reg [⟨some 2,.alloc 24,none⟩]) (.seq (.reg [⟨some 4,.move (.tmp 0),none⟩,⟨some 5,.call ⟨.value (.func 128),#[.tmp 4],#[83]⟩,none⟩,⟨some 3,.alloc 24,none⟩,⟨none,.store 24 (.tmp 3) (.tmp 5),none⟩]) (.seq (.bloop 0 x106_L0) (x106_T1)))
@[simp] theorem x106_s {C e s K} : type_of% (@X_at C e s K _ _ x106_T1.eq_1) ∧ type_of% (@X_at C e s K _ _ x106_L0.eq_1) ∧ type_of% (@X_at C e s K _ _ x106.eq_1) := ⟨X_at x106_T1.eq_1, X_at x106_L0.eq_1, X_at x106.eq_1⟩
def an106 : Ann := ⟨[(3, .tree (.op 0 (.op 1 (.op 2 (.ck 0 (.op 3 (.op 4 .fin)))))))], [(0, [], [0, 2, 3], [2, 3])], []⟩
@[simp] theorem an106_a : an106.clsOf 3 = .tree (.op 0 (.op 1 (.op 2 (.ck 0 (.op 3 (.op 4 .fin)))))) ∧ an106.frzOf 3 = [] ∧ an106.loopOf 0 = ([], [0, 2, 3], [2, 3]) := ⟨rfl, rfl, rfl⟩
theorem fi106 : FI Try.prog 106 (cxA an106) x106 [.cell 2 24] Try.f106 := fiA Try.func106 mixed
theorem and_reader (t : ByteArray) (i : Nat) (hs : t.size ≤ 1000000) (hi : i ≤ t.size) (pn : Nat → Res) (hn : ∀ j, i ≤ j → j ≤ t.size → Told 128 t j (pn j)) : Told 106 t i (opP t ⟨#[38]⟩ 5 pn i) := by
 have hle : ∀ j, i ≤ j → j ≤ t.size → ∀ f k, pn j = .ok (f, k) → j ≤ k ∧ k ≤ t.size := fun j h1 h2 f k e => by
  have := hn j h1 h2; rw [e] at this; exact this.2
 refine told_of fi106 ?_ (opP_le hle i (Nat.le_refl _) hi)
 have h0 := hn i (Nat.le_refl _) hi
 unfold opP
 cases hp0 : pn i with
 | error q =>
  rw [hp0] at h0
  simp only [Told] at h0
  ((refine Sg.h ?_); try repeat' ((first | (with_reducible first | refine brA ?_ | refine brE fun _ => ?_ | (refine spl ⟨?_, ?_⟩ <;> intro _))) <;> ((try simp -implicitDefEqProofs); (try simp -implicitDefEqProofs (disch := first | assumption | (try simp only [lens]); omega -splitDisjunctions)))))
  refine CL.psub [0] h0 ?_
  ((refine Sg.h ?_); try repeat' ((first | (with_reducible first | refine brA ?_ | refine brE fun _ => ?_ | (refine spl ⟨?_, ?_⟩ <;> intro _))) <;> ((try simp -implicitDefEqProofs); (try simp -implicitDefEqProofs (disch := first | assumption | (try simp only [lens]); omega -splitDisjunctions)))))
 | ok r =>
  obtain ⟨a, j⟩ := r
  rw [hp0] at h0
  obtain ⟨h0, hij, hjt⟩ := h0
  ((refine Sg.h ?_); try repeat' ((first | (with_reducible first | refine brA ?_ | refine brE fun _ => ?_ | (refine spl ⟨?_, ?_⟩ <;> intro _))) <;> ((try simp -implicitDefEqProofs); (try simp -implicitDefEqProofs (disch := first | assumption | (try simp only [lens]); omega -splitDisjunctions)))))
  refine CL.sub [0] h0 ?_
  ((refine Sg.h ?_); try repeat' ((first | (with_reducible first | refine brA ?_ | refine brE fun _ => ?_ | (refine spl ⟨?_, ?_⟩ <;> intro _))) <;> ((try simp -implicitDefEqProofs); (try simp -implicitDefEqProofs (disch := first | assumption | (try simp only [lens]); omega -splitDisjunctions)))))
  refine W_of fun Q hQ => ?_
  obtain ⟨R, hR⟩ : ∃ R, opL t ⟨#[38]⟩ 5 pn (t.size + 1) a j = R := ⟨_, rfl⟩
  rw [hR] at hQ
  have main : ∀ n b k, j ≤ k → k ≤ t.size → t.size - k < n → opL t ⟨#[38]⟩ 5 pn n b k = R → Q [(0, .ptr 0 0 0), (2, .ptr 1 0 0), (3, .ptr 2 0 0)] [.rows 2 [[.str t, .int .i64 (k : Int)]], .rows 3 [[.int .i64 0, .str ⟨#[]⟩, .nilsl]], .rows 3 [frm b]] := by
   intro n
   induction n with
   | zero => intro b k _ _ h; omega
   | succ n ih =>
    intro b k hjk hk hn1 hR
    have hmay := may_reader t k ⟨#[38]⟩ hs hk (by decide)
    have hb1 := bl_ge t k
    unfold mayN at hmay
    unfold opL at hR
    cases hh : hp t (bl t k) ⟨#[38]⟩ with
    | false =>
     rw [hh] at hmay hR
     simp only [Bool.false_eq_true, if_false] at hmay hR
     subst hR
     generalize bl t k = k1 at *
     apply hQ
     clear hQ ih
     ((refine Sg.h ?_); try repeat' ((first | (with_reducible first | refine brA ?_ | refine brE fun _ => ?_ | (refine spl ⟨?_, ?_⟩ <;> intro _))) <;> ((try simp -implicitDefEqProofs); (try simp -implicitDefEqProofs (disch := first | assumption | (try simp only [lens]); omega -splitDisjunctions)))))
     refine CL.sub [0] hmay ?_
     ((refine Sg.h ?_); try repeat' ((first | (with_reducible first | refine brA ?_ | refine brE fun _ => ?_ | (refine spl ⟨?_, ?_⟩ <;> intro _))) <;> ((try simp -implicitDefEqProofs); (try simp -implicitDefEqProofs (disch := first | assumption | (try simp only [lens]); omega -splitDisjunctions)))))
    | true =>
     have hlt : bl t k + 1 ≤ t.size := (of_decide_eq_true hh).1
     rw [hh] at hmay hR
     simp only [if_true] at hmay hR
     have h1 := hn (bl t k + 1) (by omega) hlt
     change CallOK _ _ _ _ _ [rd t (bl t k + 1)] at hmay
     have hge : k + 1 ≤ bl t k + 1 := by omega
     change (match pn (bl t k + 1) with | .ok (g, j) => opL t ⟨#[38]⟩ 5 pn n (.mk 5 ⟨#[]⟩ [b, g]) j | .error q => .error q) = R at hR
     generalize bl t k + 1 = k1 at *
     cases hp1 : pn k1 with
     | error q =>
      rw [hp1] at h1 hR
      simp only [Told] at h1 hR
      subst hR
      apply hQ
      clear hQ ih
      ((refine Sg.h ?_); try repeat' ((first | (with_reducible first | refine brA ?_ | refine brE fun _ => ?_ | (refine spl ⟨?_, ?_⟩ <;> intro _))) <;> ((try simp -implicitDefEqProofs); (try simp -implicitDefEqProofs (disch := first | assumption | (try simp only [lens]); omega -splitDisjunctions)))))
      refine CL.sub [0] hmay ?_
      ((refine Sg.h ?_); try repeat' ((first | (with_reducible first | refine brA ?_ | refine brE fun _ => ?_ | (refine spl ⟨?_, ?_⟩ <;> intro _))) <;> ((try simp -implicitDefEqProofs); (try simp -implicitDefEqProofs (disch := first | assumption | (try simp only [lens]); omega -splitDisjunctions)))))
      refine CT.psub [0] h1 ?_
      ((refine Sg.h ?_); try repeat' ((first | (with_reducible first | refine brA ?_ | refine brE fun _ => ?_ | (refine spl ⟨?_, ?_⟩ <;> intro _))) <;> ((try simp -implicitDefEqProofs); (try simp -implicitDefEqProofs (disch := first | assumption | (try simp only [lens]); omega -splitDisjunctions)))))
     | ok r =>
      obtain ⟨g, j1⟩ := r
      rw [hp1] at h1 hR
      simp only [Told] at h1 hR
      obtain ⟨h1, h2, h3⟩ := h1
      have h4 := two_formula 5 b g
      have ih := ih _ j1 (by omega) h3 (by omega) hR
      apply hQ
      clear hQ
      ((refine Sg.h ?_); try repeat' ((first | (with_reducible first | refine brA ?_ | refine brE fun _ => ?_ | (refine spl ⟨?_, ?_⟩ <;> intro _))) <;> ((try simp -implicitDefEqProofs); (try simp -implicitDefEqProofs (disch := first | assumption | (try simp only [lens]); omega -splitDisjunctions)))))
      refine CL.sub [0] hmay ?_
      ((refine Sg.h ?_); try repeat' ((first | (with_reducible first | refine brA ?_ | refine brE fun _ => ?_ | (refine spl ⟨?_, ?_⟩ <;> intro _))) <;> ((try simp -implicitDefEqProofs); (try simp -implicitDefEqProofs (disch := first | assumption | (try simp only [lens]); omega -splitDisjunctions)))))
      refine CT.sub [0] h1 ?_
      ((refine Sg.h ?_); try repeat' ((first | (with_reducible first | refine brA ?_ | refine brE fun _ => ?_ | (refine spl ⟨?_, ?_⟩ <;> intro _)) | refine clo h4 ?_) <;> ((try simp -implicitDefEqProofs); (try simp -implicitDefEqProofs (disch := first | assumption | (try simp only [lens]); omega -splitDisjunctions)))))
      all_goals first | exact ih | (refine at2 ih ?_ ?_ <;> simp; done) | (exfalso; first | omega | (simp_all; done) | (simp_all; omega))
  exact main _ a j (Nat.le_refl _) hjt (by omega) hR
def x80_T1 : XC := .seq (.reg [⟨some 12,.load 24 (.tmp 3),none⟩,⟨none,.store 24 (.tmp 2) (.tmp 12),none⟩]) .ret
def x80_L0 : XC := .seq (.seq (.reg [⟨some 6,.move (.tmp 0),none⟩,⟨some 7,.call ⟨.value (.func 81),#[.tmp 6,.const (.string ⟨#[124]⟩)],#[83,9]⟩,none⟩]) (.cond (.tmp 7) .skip (.exit 0))) (.block 1 (.drawn 3 [⟨some 8,.load 24 (.tmp 3),none⟩,⟨some 9,.move (.tmp 0),none⟩,⟨some 10,.call ⟨.value (.func 106),#[.tmp 9],#[83]⟩,none⟩,⟨some 11,.call ⟨.value (.func 82),#[.const (.int .i64 6),.tmp 8,.tmp 10],#[3,24,24]⟩,none⟩,⟨none,.store 24 (.tmp 3) (.tmp 11),none⟩]))
def x80 : XC := .seq (.reg [⟨some 2,.alloc 24,none⟩]) (.seq (.reg [⟨some 4,.move (.tmp 0),none⟩,⟨some 5,.call ⟨.value (.func 106),#[.tmp 4],#[83]⟩,none⟩,⟨some 3,.alloc 24,none⟩,⟨none,.store 24 (.tmp 3) (.tmp 5),none⟩]) (.seq (.bloop 0 x80_L0) (x80_T1)))
@[simp] theorem x80_s {C e s K} : type_of% (@X_at C e s K _ _ x80_T1.eq_1) ∧ type_of% (@X_at C e s K _ _ x80_L0.eq_1) ∧ type_of% (@X_at C e s K _ _ x80.eq_1) := ⟨X_at x80_T1.eq_1, X_at x80_L0.eq_1, X_at x80.eq_1⟩
def an80 : Ann := ⟨[(3, .tree (.op 0 (.op 1 (.op 2 (.ck 0 (.op 3 (.op 4 .fin)))))))], [(0, [], [0, 2, 3], [2, 3])], []⟩
@[simp] theorem an80_a : an80.clsOf 3 = .tree (.op 0 (.op 1 (.op 2 (.ck 0 (.op 3 (.op 4 .fin)))))) ∧ an80.frzOf 3 = [] ∧ an80.loopOf 0 = ([], [0, 2, 3], [2, 3]) := ⟨rfl, rfl, rfl⟩
theorem fi80 : FI Try.prog 80 (cxA an80) x80 [.cell 2 24] Try.f80 := fiA Try.func80 mixed
theorem or_reader (t : ByteArray) (i : Nat) (hs : t.size ≤ 1000000) (hi : i ≤ t.size) (pn : Nat → Res) (hn : ∀ j, i ≤ j → j ≤ t.size → Told 106 t j (pn j)) : Told 80 t i (opP t ⟨#[124]⟩ 6 pn i) := by
 have hle : ∀ j, i ≤ j → j ≤ t.size → ∀ f k, pn j = .ok (f, k) → j ≤ k ∧ k ≤ t.size := fun j h1 h2 f k e => by
  have := hn j h1 h2; rw [e] at this; exact this.2
 refine told_of fi80 ?_ (opP_le hle i (Nat.le_refl _) hi)
 have h0 := hn i (Nat.le_refl _) hi
 unfold opP
 cases hp0 : pn i with
 | error q =>
  rw [hp0] at h0
  simp only [Told] at h0
  ((refine Sg.h ?_); try repeat' ((first | (with_reducible first | refine brA ?_ | refine brE fun _ => ?_ | (refine spl ⟨?_, ?_⟩ <;> intro _))) <;> ((try simp -implicitDefEqProofs); (try simp -implicitDefEqProofs (disch := first | assumption | (try simp only [lens]); omega -splitDisjunctions)))))
  refine CL.psub [0] h0 ?_
  ((refine Sg.h ?_); try repeat' ((first | (with_reducible first | refine brA ?_ | refine brE fun _ => ?_ | (refine spl ⟨?_, ?_⟩ <;> intro _))) <;> ((try simp -implicitDefEqProofs); (try simp -implicitDefEqProofs (disch := first | assumption | (try simp only [lens]); omega -splitDisjunctions)))))
 | ok r =>
  obtain ⟨a, j⟩ := r
  rw [hp0] at h0
  obtain ⟨h0, hij, hjt⟩ := h0
  ((refine Sg.h ?_); try repeat' ((first | (with_reducible first | refine brA ?_ | refine brE fun _ => ?_ | (refine spl ⟨?_, ?_⟩ <;> intro _))) <;> ((try simp -implicitDefEqProofs); (try simp -implicitDefEqProofs (disch := first | assumption | (try simp only [lens]); omega -splitDisjunctions)))))
  refine CL.sub [0] h0 ?_
  ((refine Sg.h ?_); try repeat' ((first | (with_reducible first | refine brA ?_ | refine brE fun _ => ?_ | (refine spl ⟨?_, ?_⟩ <;> intro _))) <;> ((try simp -implicitDefEqProofs); (try simp -implicitDefEqProofs (disch := first | assumption | (try simp only [lens]); omega -splitDisjunctions)))))
  refine W_of fun Q hQ => ?_
  obtain ⟨R, hR⟩ : ∃ R, opL t ⟨#[124]⟩ 6 pn (t.size + 1) a j = R := ⟨_, rfl⟩
  rw [hR] at hQ
  have main : ∀ n b k, j ≤ k → k ≤ t.size → t.size - k < n → opL t ⟨#[124]⟩ 6 pn n b k = R → Q [(0, .ptr 0 0 0), (2, .ptr 1 0 0), (3, .ptr 2 0 0)] [.rows 2 [[.str t, .int .i64 (k : Int)]], .rows 3 [[.int .i64 0, .str ⟨#[]⟩, .nilsl]], .rows 3 [frm b]] := by
   intro n
   induction n with
   | zero => intro b k _ _ h; omega
   | succ n ih =>
    intro b k hjk hk hn1 hR
    have hmay := may_reader t k ⟨#[124]⟩ hs hk (by decide)
    have hb1 := bl_ge t k
    unfold mayN at hmay
    unfold opL at hR
    cases hh : hp t (bl t k) ⟨#[124]⟩ with
    | false =>
     rw [hh] at hmay hR
     simp only [Bool.false_eq_true, if_false] at hmay hR
     subst hR
     generalize bl t k = k1 at *
     apply hQ
     clear hQ ih
     ((refine Sg.h ?_); try repeat' ((first | (with_reducible first | refine brA ?_ | refine brE fun _ => ?_ | (refine spl ⟨?_, ?_⟩ <;> intro _))) <;> ((try simp -implicitDefEqProofs); (try simp -implicitDefEqProofs (disch := first | assumption | (try simp only [lens]); omega -splitDisjunctions)))))
     refine CL.sub [0] hmay ?_
     ((refine Sg.h ?_); try repeat' ((first | (with_reducible first | refine brA ?_ | refine brE fun _ => ?_ | (refine spl ⟨?_, ?_⟩ <;> intro _))) <;> ((try simp -implicitDefEqProofs); (try simp -implicitDefEqProofs (disch := first | assumption | (try simp only [lens]); omega -splitDisjunctions)))))
    | true =>
     have hlt : bl t k + 1 ≤ t.size := (of_decide_eq_true hh).1
     rw [hh] at hmay hR
     simp only [if_true] at hmay hR
     have h1 := hn (bl t k + 1) (by omega) hlt
     change CallOK _ _ _ _ _ [rd t (bl t k + 1)] at hmay
     have hge : k + 1 ≤ bl t k + 1 := by omega
     change (match pn (bl t k + 1) with | .ok (g, j) => opL t ⟨#[124]⟩ 6 pn n (.mk 6 ⟨#[]⟩ [b, g]) j | .error q => .error q) = R at hR
     generalize bl t k + 1 = k1 at *
     cases hp1 : pn k1 with
     | error q =>
      rw [hp1] at h1 hR
      simp only [Told] at h1 hR
      subst hR
      apply hQ
      clear hQ ih
      ((refine Sg.h ?_); try repeat' ((first | (with_reducible first | refine brA ?_ | refine brE fun _ => ?_ | (refine spl ⟨?_, ?_⟩ <;> intro _))) <;> ((try simp -implicitDefEqProofs); (try simp -implicitDefEqProofs (disch := first | assumption | (try simp only [lens]); omega -splitDisjunctions)))))
      refine CL.sub [0] hmay ?_
      ((refine Sg.h ?_); try repeat' ((first | (with_reducible first | refine brA ?_ | refine brE fun _ => ?_ | (refine spl ⟨?_, ?_⟩ <;> intro _))) <;> ((try simp -implicitDefEqProofs); (try simp -implicitDefEqProofs (disch := first | assumption | (try simp only [lens]); omega -splitDisjunctions)))))
      refine CT.psub [0] h1 ?_
      ((refine Sg.h ?_); try repeat' ((first | (with_reducible first | refine brA ?_ | refine brE fun _ => ?_ | (refine spl ⟨?_, ?_⟩ <;> intro _))) <;> ((try simp -implicitDefEqProofs); (try simp -implicitDefEqProofs (disch := first | assumption | (try simp only [lens]); omega -splitDisjunctions)))))
     | ok r =>
      obtain ⟨g, j1⟩ := r
      rw [hp1] at h1 hR
      simp only [Told] at h1 hR
      obtain ⟨h1, h2, h3⟩ := h1
      have h4 := two_formula 6 b g
      have ih := ih _ j1 (by omega) h3 (by omega) hR
      apply hQ
      clear hQ
      ((refine Sg.h ?_); try repeat' ((first | (with_reducible first | refine brA ?_ | refine brE fun _ => ?_ | (refine spl ⟨?_, ?_⟩ <;> intro _))) <;> ((try simp -implicitDefEqProofs); (try simp -implicitDefEqProofs (disch := first | assumption | (try simp only [lens]); omega -splitDisjunctions)))))
      refine CL.sub [0] hmay ?_
      ((refine Sg.h ?_); try repeat' ((first | (with_reducible first | refine brA ?_ | refine brE fun _ => ?_ | (refine spl ⟨?_, ?_⟩ <;> intro _))) <;> ((try simp -implicitDefEqProofs); (try simp -implicitDefEqProofs (disch := first | assumption | (try simp only [lens]); omega -splitDisjunctions)))))
      refine CT.sub [0] h1 ?_
      ((refine Sg.h ?_); try repeat' ((first | (with_reducible first | refine brA ?_ | refine brE fun _ => ?_ | (refine spl ⟨?_, ?_⟩ <;> intro _)) | refine clo h4 ?_) <;> ((try simp -implicitDefEqProofs); (try simp -implicitDefEqProofs (disch := first | assumption | (try simp only [lens]); omega -splitDisjunctions)))))
      all_goals first | exact ih | (refine at2 ih ?_ ?_ <;> simp; done) | (exfalso; first | omega | (simp_all; done) | (simp_all; omega))
  exact main _ a j (Nat.le_refl _) hjt (by omega) hR
def x56 : XC := .seq (.reg [⟨some 2,.alloc 24,none⟩]) (.seq (.reg [⟨some 4,.move (.tmp 0),none⟩,⟨some 5,.call ⟨.value (.func 80),#[.tmp 4],#[83]⟩,none⟩,⟨some 3,.alloc 24,none⟩,⟨none,.store 24 (.tmp 3) (.tmp 5),none⟩]) (.seq (.seq (.reg [⟨some 6,.move (.tmp 0),none⟩,⟨some 7,.call ⟨.value (.func 81),#[.tmp 6,.const (.string ⟨#[45,62]⟩)],#[83,9]⟩,none⟩]) (.cond (.tmp 7) (.seq (.drawn 3 [⟨some 8,.load 24 (.tmp 3),none⟩,⟨some 9,.move (.tmp 0),none⟩,⟨some 10,.call ⟨.value (.func 56),#[.tmp 9],#[83]⟩,none⟩,⟨some 11,.call ⟨.value (.func 82),#[.const (.int .i64 7),.tmp 8,.tmp 10],#[3,24,24]⟩,none⟩,⟨none,.store 24 (.tmp 2) (.tmp 11),none⟩]) .ret) .skip)) (.seq (.reg [⟨some 12,.load 24 (.tmp 3),none⟩,⟨none,.store 24 (.tmp 2) (.tmp 12),none⟩]) .ret)))
@[simp] theorem x56_s {C e s K} : type_of% (@X_at C e s K _ _ x56.eq_1) := X_at x56.eq_1
def an56 : Ann := ⟨[(3, .tree (.op 0 (.op 1 (.op 2 (.ck 0 (.op 3 (.op 4 .fin)))))))], [], []⟩
@[simp] theorem an56_a : an56.clsOf 3 = .tree (.op 0 (.op 1 (.op 2 (.ck 0 (.op 3 (.op 4 .fin)))))) ∧ an56.frzOf 3 = [] := ⟨rfl, rfl⟩
theorem fi56 : FI Try.prog 56 (cxA an56) x56 [.cell 2 24] Try.f56 := fiA Try.func56 mixed
theorem then_reader (t : ByteArray) (i : Nat) (hs : t.size ≤ 1000000) (hi : i ≤ t.size) (po pt : Nat → Res) (ho : Told 80 t i (po i)) (ht : ∀ j, i < j → j ≤ t.size → Told 56 t j (pt j)) : Told 56 t i (thenP t po pt i) := by
 refine told_of fi56 ?_ (thenP_le hi (fun f j e => by rw [e] at ho; exact ho.2) fun k h1 h2 f j e => by
  have := ht k h1 h2; rw [e] at this; exact this.2)
 unfold thenP
 cases hp0 : po i with
 | error q =>
  rw [hp0] at ho
  simp only [Told] at ho
  ((refine Sg.h ?_); try repeat' ((first | (with_reducible first | refine brA ?_ | refine brE fun _ => ?_ | (refine spl ⟨?_, ?_⟩ <;> intro _))) <;> ((try simp -implicitDefEqProofs); (try simp -implicitDefEqProofs (disch := first | assumption | (try simp only [lens]); omega -splitDisjunctions)))))
  refine CL.psub [0] ho ?_
  ((refine Sg.h ?_); try repeat' ((first | (with_reducible first | refine brA ?_ | refine brE fun _ => ?_ | (refine spl ⟨?_, ?_⟩ <;> intro _))) <;> ((try simp -implicitDefEqProofs); (try simp -implicitDefEqProofs (disch := first | assumption | (try simp only [lens]); omega -splitDisjunctions)))))
 | ok r =>
  obtain ⟨a, k⟩ := r
  rw [hp0] at ho
  obtain ⟨h0, hij, hk⟩ := ho
  have hmay := may_reader t k ⟨#[45, 62]⟩ hs hk (by decide)
  have hb1 := bl_ge t k
  unfold mayN at hmay
  cases hh : hp t (bl t k) ⟨#[45, 62]⟩ with
  | false =>
   simp only [hh, Bool.false_eq_true, if_false] at hmay ⊢
   generalize bl t k = k1 at *
   ((refine Sg.h ?_); try repeat' ((first | (with_reducible first | refine brA ?_ | refine brE fun _ => ?_ | (refine spl ⟨?_, ?_⟩ <;> intro _))) <;> ((try simp -implicitDefEqProofs); (try simp -implicitDefEqProofs (disch := first | assumption | (try simp only [lens]); omega -splitDisjunctions)))))
   refine CL.sub [0] h0 ?_
   ((refine Sg.h ?_); try repeat' ((first | (with_reducible first | refine brA ?_ | refine brE fun _ => ?_ | (refine spl ⟨?_, ?_⟩ <;> intro _))) <;> ((try simp -implicitDefEqProofs); (try simp -implicitDefEqProofs (disch := first | assumption | (try simp only [lens]); omega -splitDisjunctions)))))
   refine CL.sub [0] hmay ?_
   ((refine Sg.h ?_); try repeat' ((first | (with_reducible first | refine brA ?_ | refine brE fun _ => ?_ | (refine spl ⟨?_, ?_⟩ <;> intro _))) <;> ((try simp -implicitDefEqProofs); (try simp -implicitDefEqProofs (disch := first | assumption | (try simp only [lens]); omega -splitDisjunctions)))))
  | true =>
   have hlt : bl t k + 2 ≤ t.size := (of_decide_eq_true hh).1
   simp only [hh, if_true] at hmay ⊢
   have h1 := ht (bl t k + 2) (by omega) hlt
   change CallOK _ _ _ _ _ [rd t (bl t k + 2)] at hmay
   generalize bl t k + 2 = k1 at *
   cases hp1 : pt k1 with
   | error q =>
    rw [hp1] at h1
    simp only [Told] at h1
    try simp only [hp1]
    ((refine Sg.h ?_); try repeat' ((first | (with_reducible first | refine brA ?_ | refine brE fun _ => ?_ | (refine spl ⟨?_, ?_⟩ <;> intro _))) <;> ((try simp -implicitDefEqProofs); (try simp -implicitDefEqProofs (disch := first | assumption | (try simp only [lens]); omega -splitDisjunctions)))))
    refine CL.sub [0] h0 ?_
    ((refine Sg.h ?_); try repeat' ((first | (with_reducible first | refine brA ?_ | refine brE fun _ => ?_ | (refine spl ⟨?_, ?_⟩ <;> intro _))) <;> ((try simp -implicitDefEqProofs); (try simp -implicitDefEqProofs (disch := first | assumption | (try simp only [lens]); omega -splitDisjunctions)))))
    refine CL.sub [0] hmay ?_
    ((refine Sg.h ?_); try repeat' ((first | (with_reducible first | refine brA ?_ | refine brE fun _ => ?_ | (refine spl ⟨?_, ?_⟩ <;> intro _))) <;> ((try simp -implicitDefEqProofs); (try simp -implicitDefEqProofs (disch := first | assumption | (try simp only [lens]); omega -splitDisjunctions)))))
    refine CT.psub [0] h1 ?_
    ((refine Sg.h ?_); try repeat' ((first | (with_reducible first | refine brA ?_ | refine brE fun _ => ?_ | (refine spl ⟨?_, ?_⟩ <;> intro _))) <;> ((try simp -implicitDefEqProofs); (try simp -implicitDefEqProofs (disch := first | assumption | (try simp only [lens]); omega -splitDisjunctions)))))
   | ok r =>
    obtain ⟨g, j1⟩ := r
    rw [hp1] at h1
    simp only [Told] at h1
    try simp only [hp1]
    obtain ⟨h1, h2, h3⟩ := h1
    have h4 := two_formula 7 a g
    ((refine Sg.h ?_); try repeat' ((first | (with_reducible first | refine brA ?_ | refine brE fun _ => ?_ | (refine spl ⟨?_, ?_⟩ <;> intro _))) <;> ((try simp -implicitDefEqProofs); (try simp -implicitDefEqProofs (disch := first | assumption | (try simp only [lens]); omega -splitDisjunctions)))))
    refine CL.sub [0] h0 ?_
    ((refine Sg.h ?_); try repeat' ((first | (with_reducible first | refine brA ?_ | refine brE fun _ => ?_ | (refine spl ⟨?_, ?_⟩ <;> intro _))) <;> ((try simp -implicitDefEqProofs); (try simp -implicitDefEqProofs (disch := first | assumption | (try simp only [lens]); omega -splitDisjunctions)))))
    refine CL.sub [0] hmay ?_
    ((refine Sg.h ?_); try repeat' ((first | (with_reducible first | refine brA ?_ | refine brE fun _ => ?_ | (refine spl ⟨?_, ?_⟩ <;> intro _))) <;> ((try simp -implicitDefEqProofs); (try simp -implicitDefEqProofs (disch := first | assumption | (try simp only [lens]); omega -splitDisjunctions)))))
    refine CT.sub [0] h1 ?_
    ((refine Sg.h ?_); try repeat' ((first | (with_reducible first | refine brA ?_ | refine brE fun _ => ?_ | (refine spl ⟨?_, ?_⟩ <;> intro _)) | refine clo h4 ?_) <;> ((try simp -implicitDefEqProofs); (try simp -implicitDefEqProofs (disch := first | assumption | (try simp only [lens]); omega -splitDisjunctions)))))
def una (k : Int) : Res → Res
 | .ok (f, j) => .ok (.mk k ⟨#[]⟩ [f], j)
 | .error q => .error q
def ltk (t : ByteArray) : Nat → Nat → Nat
 | 0, i => i
 | n + 1, i => if h : i < t.size then (if letterB t[i] = true then ltk t n (i + 1) else i) else i
def lte (t : ByteArray) (i : Nat) : Nat := ltk t (t.size - i) i
theorem lte_end {t : ByteArray} {i : Nat} (h : ¬ i < t.size) : lte t i = i := by
 unfold lte; rw [show t.size - i = 0 by omega]; rfl
theorem lte_stop {t : ByteArray} {i : Nat} (h : i < t.size) (hb : letterB t[i] = false) : lte t i = i := by
 unfold lte; rw [show t.size - i = (t.size - (i + 1)) + 1 by omega, ltk, dif_pos h, if_neg (by simp [hb])]
theorem lte_step {t : ByteArray} {i : Nat} (h : i < t.size) (hb : letterB t[i] = true) : lte t i = lte t (i + 1) := by
 unfold lte; rw [show t.size - i = (t.size - (i + 1)) + 1 by omega, ltk, dif_pos h, if_pos hb]
theorem ltk_le (t : ByteArray) : ∀ n i, i ≤ ltk t n i ∧ (i ≤ t.size → ltk t n i ≤ t.size)
 | 0, i => ⟨Nat.le_refl _, id⟩
 | n + 1, i => by
  unfold ltk
  split
  ·split
   ·have := ltk_le t n (i + 1); exact ⟨by omega, fun _ => this.2 (by omega)⟩
   ·exact ⟨Nat.le_refl _, id⟩
  ·exact ⟨Nat.le_refl _, id⟩
theorem lte_ge (t : ByteArray) (i : Nat) : i ≤ lte t i := (ltk_le t _ i).1
theorem lte_le {t : ByteArray} {i : Nat} (h : i ≤ t.size) : lte t i ≤ t.size := (ltk_le t _ i).2 h
theorem bl_bl (t : ByteArray) (i : Nat) : bl t (bl t i) = bl t i := by
 have key : ∀ r i, t.size - i = r → bl t (bl t i) = bl t i := by
  intro r
  induction r with
  | zero => intro i hi; rw [bl_end (t := t) (i := i) (by omega), bl_end (by omega)]
  | succ r ih =>
   intro i hi
   have hlt : i < t.size := by omega
   cases hb : isBl t[i] with
   | false => rw [bl_stop hlt hb, bl_stop hlt hb]
   | true => rw [bl_step hlt hb]; exact ih (i + 1) (by omega)
 exact key _ i rfl
theorem may_at (t : ByteArray) (i : Nat) (w : ByteArray) (hs : t.size ≤ 1000000) (hi : i ≤ t.size) (hb : bl t i = i) (hw : w.size ≤ 1000) (b : Bool) (hh : hp t i w = b) : CallOK Try.prog 81 [.ptr 0 0 0, .str w] [rd t i] (.bool b) [rd t (if b = true then i + w.size else i)] := by
 have := may_reader t i w hs hi hw
 unfold mayN at this
 rw [hb, hh] at this
 exact this
def parP (t : ByteArray) : Res → Res
 | .ok (f, j) => if hp t (bl t j) ⟨#[41]⟩ = true then .ok (f, bl t j + 1) else .error (bl t j)
 | .error q => .error q
def notP (t : ByteArray) (pn pt : Nat → Res) (i : Nat) : Res :=
 if hp t (bl t i) ⟨#[126]⟩ = true then una 4 (pn (bl t i + 1)) else if hp t (bl t i) ⟨#[91, 93]⟩ = true then una 8 (pn (bl t i + 2)) else if hp t (bl t i) ⟨#[60, 62]⟩ = true then una 9 (pn (bl t i + 2))
 else if hp t (bl t i) ⟨#[40]⟩ = true then parP t (pt (bl t i + 1)) else if hp t (bl t i) ⟨#[49]⟩ = true then .ok (.mk 2 ⟨#[]⟩ [], bl t i + 1) else if hp t (bl t i) ⟨#[48]⟩ = true then .ok (.mk 3 ⟨#[]⟩ [], bl t i + 1)
 else if isNameB (t.extract (bl t i) (lte t (bl t i))) = true then .ok (.mk 1 (t.extract (bl t i) (lte t (bl t i))) [], lte t (bl t i)) else .error (bl t i)
end Go.Proofs.Ytcllmionhlmjfaa
