/-
  calculus: look, Check.
-/
import Derived.Test.YtnoklmapofogeaaVCcG
namespace Go.Proofs.Ytnoklmapofogeaa
open Go Go.Pv
set_option linter.unusedVariables false
set_option linter.unusedSimpArgs false
set_option maxRecDepth 100000
set_option maxHeartbeats 4000000

/-- all bags of a proof are short -/
inductive Szs : Pf → Prop where
  | mk {p : Pf} (h : Sz p) (hk : ∀ k ∈ p.kids, Szs k) (hl : p.kids.length ≤ 1000000) : Szs p
theorem Szs.sz {p : Pf} (h : Szs p) : Sz p := by cases h; assumption
theorem Szs.kid {p k : Pf} (h : Szs p) (hk : k ∈ p.kids) : Szs k := by cases h with | mk a b c => exact b k hk
theorem Szs.len {p : Pf} (h : Szs p) : p.kids.length ≤ 1000000 := by cases h; assumption
mutual
/-- the count of steps looked at, and the fault -/
noncomputable def lookF (u : Bool) : Pf → Nat → Int → Nat × (Int × Int)
  | .mk a f l r ks, n, d =>
    if 20000 ≤ n ∨ 400 < d then (n + 1, (2, 0)) else
    if (sequentF l r).1 ≠ 0 ∨ (u = true ∧ 1 < r.length) then (n + 1, (5, (n : Int))) else
    if stepF u (.mk a f l r ks) ≠ 0 then (n + 1, (stepF u (.mk a f l r ks), (n : Int))) else looksF u ks (n + 1) (d + 1)
noncomputable def looksF (u : Bool) : List Pf → Nat → Int → Nat × (Int × Int)
  | [], n, _ => (n, (0, 0))
  | k :: ks, n, d => if (lookF u k n d).2.1 ≠ 0 then lookF u k n d else looksF u ks (lookF u k n d).1 d
end
theorem lookF_eq (u : Bool) (p : Pf) (n : Nat) (d : Int) : lookF u p n d =
    if 20000 ≤ n ∨ 400 < d then (n + 1, (2, 0)) else
    if (sequentF p.l p.r).1 ≠ 0 ∨ (u = true ∧ 1 < p.r.length) then (n + 1, (5, (n : Int))) else
    if stepF u p ≠ 0 then (n + 1, (stepF u p, (n : Int))) else looksF u p.kids (n + 1) (d + 1) := by
  cases p with | mk a f l r ks => rw [lookF]; rfl
theorem lookF_le (u : Bool) (p : Pf) : ∀ (n : Nat) (d : Int), n ≤ 20000 → (lookF u p n d).2.1 = 0 → (lookF u p n d).1 ≤ 20000 := by
  induction p using Pf.ind with
  | h p ih =>
    intro n d hn h
    rw [lookF_eq] at h ⊢
    have key : ∀ ks : List Pf, (∀ k ∈ ks, k ∈ p.kids) → ∀ (n : Nat) (d : Int), n ≤ 20000 → (looksF u ks n d).2.1 = 0 → (looksF u ks n d).1 ≤ 20000 := by
      intro ks
      induction ks with
      | nil => intro _ n d hn _; rw [looksF]; exact hn
      | cons k r ihr =>
        intro hm n d hn h
        rw [looksF] at h ⊢
        by_cases h0 : (lookF u k n d).2.1 = 0
        · rw [if_neg (by simpa using h0)] at h ⊢
          exact ihr (fun k hk => hm k (.tail _ hk)) _ _ (ih k (hm k (.head _)) n d hn h0) h
        · rw [if_pos h0] at h; exact absurd h h0
    by_cases h1 : 20000 ≤ n ∨ 400 < d
    · rw [if_pos h1] at h; cases h
    · rw [if_neg h1] at h ⊢
      by_cases h2 : (sequentF p.l p.r).1 ≠ 0 ∨ (u = true ∧ 1 < p.r.length)
      · rw [if_pos h2] at h; cases h
      · rw [if_neg h2] at h ⊢
        by_cases h3 : stepF u p ≠ 0
        · rw [if_pos h3] at h; exact absurd h h3
        · rw [if_neg h3] at h ⊢
          exact key _ (fun k hk => hk) _ _ (by omega) h
def x61_T1 : XC := .seq (.reg [⟨some 78,.build 33 #[],none⟩,⟨none,.store 33 (.tmp 6) (.tmp 78),none⟩]) (.ret)
def x61_L0 : XC := .seq (.reg [⟨some 65,.binOp .lss 3 (.tmp 64) (.tmp 63) 3,none⟩]) (.seq (.cond (.tmp 65) (.skip) (.exit 0)) (.seq (.block 1 (.seq (.reg [⟨some 66,.indexAddr 27 (.tmp 62) (.tmp 64),none⟩,⟨some 67,.load 29 (.tmp 66),none⟩,⟨some 10,.alloc 29,none⟩,⟨none,.store 29 (.tmp 10) (.tmp 67),none⟩]) (.seq (.reg [⟨some 68,.move (.tmp 0),none⟩,⟨some 69,.load 29 (.tmp 10),none⟩,⟨some 70,.move (.tmp 2),none⟩,⟨some 71,.binOp .add 3 (.tmp 70) (.const (.int .i64 1)) 3,none⟩,⟨some 72,.call ⟨.value (.func 61),#[.tmp 68,.tmp 69,.tmp 71],#[84,29,3]⟩,none⟩,⟨some 11,.alloc 33,none⟩,⟨none,.store 33 (.tmp 11) (.tmp 72),none⟩]) (.seq (.reg [⟨some 73,.fieldAddr 33 (.tmp 11) 0,none⟩,⟨some 74,.load 3 (.tmp 73),none⟩,⟨some 75,.binOp .neq 3 (.tmp 74) (.const (.int .i64 0)) 3,none⟩]) (.cond (.tmp 75) (.seq (.reg [⟨some 76,.load 33 (.tmp 11),none⟩,⟨none,.store 33 (.tmp 6) (.tmp 76),none⟩]) (.ret)) (.skip)))))) (.reg [⟨some 77,.binOp .add 3 (.tmp 64) (.const (.int .i64 1)) 3,none⟩,⟨some 64,.move (.tmp 77),none⟩])))
def x61 : XC := .seq (.reg [⟨some 4,.box 29 (.tmp 1),none⟩,⟨some 6,.alloc 33,none⟩]) (.seq (.reg [⟨some 12,.move (.tmp 0),none⟩,⟨some 13,.nilCheck (.tmp 12),none⟩,⟨some 14,.fieldAddr 86 (.tmp 13) 1,none⟩,⟨some 15,.load 3 (.tmp 14),none⟩,⟨some 7,.assign (.tmp 15),none⟩]) (.seq (.seq (.reg [⟨some 16,.move (.tmp 0),none⟩,⟨some 17,.nilCheck (.tmp 16),none⟩,⟨some 18,.fieldAddr 86 (.tmp 17) 1,none⟩,⟨some 19,.load 3 (.tmp 18),none⟩,⟨some 20,.binOp .add 3 (.tmp 19) (.const (.int .i64 1)) 3,none⟩,⟨some 21,.nilCheck (.tmp 16),none⟩,⟨some 22,.fieldAddr 86 (.tmp 21) 1,none⟩,⟨none,.store 3 (.tmp 22) (.tmp 20),none⟩]) (.seq (.reg [⟨some 23,.move (.tmp 7),none⟩,⟨some 24,.binOp .geq 3 (.tmp 23) (.const (.int .i64 20000)) 3,none⟩,⟨some 25,.move (.tmp 24),none⟩,⟨some 26,.move (.tmp 2),some (some 25,false)⟩,⟨some 27,.binOp .gtr 3 (.tmp 26) (.const (.int .i64 400)) 3,some (some 25,false)⟩,⟨some 28,.pick (.tmp 25) (.const (.bool true)) (.tmp 27),none⟩]) (.cond (.tmp 28) (.seq (.reg [⟨some 29,.call ⟨.value (.func 68),#[.const (.int .i64 2),.const (.int .i64 0)],#[3,3]⟩,none⟩,⟨none,.store 33 (.tmp 6) (.tmp 29),none⟩]) (.ret)) (.skip)))) (.seq (.seq (.reg [⟨some 30,.fieldAddr 29 (.tmp 4) 2,none⟩,⟨some 31,.load 26 (.tmp 30),none⟩,⟨some 32,.call ⟨.value (.func 30),#[.tmp 31],#[26]⟩,none⟩,⟨some 33,.field 33 (.tmp 32) 0,none⟩,⟨some 34,.binOp .neq 3 (.tmp 33) (.const (.int .i64 0)) 3,none⟩,⟨some 35,.move (.tmp 34),none⟩,⟨some 36,.move (.tmp 0),some (some 35,false)⟩,⟨some 37,.nilCheck (.tmp 36),some (some 35,false)⟩,⟨some 38,.fieldAddr 86 (.tmp 37) 0,some (some 35,false)⟩,⟨some 39,.load 4 (.tmp 38),some (some 35,false)⟩,⟨some 40,.move (.tmp 39),some (some 35,false)⟩,⟨some 41,.fieldAddr 29 (.tmp 4) 2,some (some 40,true)⟩,⟨some 42,.fieldAddr 26 (.tmp 41) 1,some (some 40,true)⟩,⟨some 43,.load 22 (.tmp 42),some (some 40,true)⟩,⟨some 44,.call ⟨.builtin .len,#[.tmp 43],#[22]⟩,some (some 40,true)⟩,⟨some 45,.binOp .gtr 3 (.tmp 44) (.const (.int .i64 1)) 3,some (some 40,true)⟩,⟨some 46,.pick (.tmp 40) (.tmp 45) (.const (.bool false)),some (some 35,false)⟩,⟨some 47,.pick (.tmp 35) (.const (.bool true)) (.tmp 46),none⟩]) (.cond (.tmp 47) (.seq (.reg [⟨some 48,.move (.tmp 7),none⟩,⟨some 49,.call ⟨.value (.func 68),#[.const (.int .i64 5),.tmp 48],#[3,3]⟩,none⟩,⟨none,.store 33 (.tmp 6) (.tmp 49),none⟩]) (.ret)) (.skip))) (.seq (.seq (.drawn 7 [⟨some 50,.load 29 (.tmp 4),none⟩,⟨some 51,.move (.tmp 0),none⟩,⟨some 52,.nilCheck (.tmp 51),none⟩,⟨some 53,.fieldAddr 86 (.tmp 52) 0,none⟩,⟨some 54,.load 4 (.tmp 53),none⟩,⟨some 55,.call ⟨.value (.func 95),#[.tmp 50,.tmp 54],#[29,4]⟩,none⟩,⟨some 8,.assign (.tmp 55),none⟩]) (.seq (.reg [⟨some 56,.move (.tmp 8),none⟩,⟨some 57,.binOp .neq 3 (.tmp 56) (.const (.int .i64 0)) 3,none⟩]) (.cond (.tmp 57) (.seq (.reg [⟨some 58,.move (.tmp 8),none⟩,⟨some 59,.move (.tmp 7),none⟩,⟨some 60,.call ⟨.value (.func 68),#[.tmp 58,.tmp 59],#[3,3]⟩,none⟩,⟨none,.store 33 (.tmp 6) (.tmp 60),none⟩]) (.ret)) (.skip)))) (.seq (.seq (.reg [⟨some 61,.fieldAddr 29 (.tmp 4) 3,none⟩,⟨some 62,.load 27 (.tmp 61),none⟩,⟨some 63,.call ⟨.builtin .len,#[.tmp 62],#[27]⟩,none⟩,⟨some 64,.move (.const (.int .i64 0)),none⟩]) (.bloop 0 x61_L0)) (x61_T1))))))
@[simp] theorem x61_s {C : WC} {e : AE} {s : Store} {K : KS} : type_of% (@X_at C e s K _ _ x61_T1.eq_1) ∧ type_of% (@X_at C e s K _ _ x61_L0.eq_1) ∧ type_of% (@X_at C e s K _ _ x61.eq_1) := ⟨X_at x61_T1.eq_1, X_at x61_L0.eq_1, X_at x61.eq_1⟩
def an61 : Ann := ⟨[(7, .mix 5)], [(0, [], [0, 2, 6, 62, 63, 64], [6])], []⟩
def cx61 (P : Program) (m : Nat) : WC := ⟨P, m, an61⟩
@[simp] theorem cx61_a {P : Program} {m : Nat} : (cx61 P m).P = P ∧ (cx61 P m).m = m ∧ (cx61 P m).A.clsOf 7 = .mix 5 ∧ (cx61 P m).A.frzOf 7 = [] ∧ (cx61 P m).A.loopOf 0 = ([], [0, 2, 6, 62, 63, 64], [6]) := ⟨rfl, rfl, rfl, rfl, rfl⟩
instance {P : Program} {m f : Nat} [h : EnT P f] : EnT (cx61 P m).P f := h
theorem fi61 : FI Try.prog 61 cx61 x61 [.cell 6 33] Try.f61 := fiOf (fun _ _ => rfl) (by decide +kernel) Try.func61 (by kernel_rfl) (by kernel_rfl) mixed

theorem look_calculus (u : Bool) (p : Pf) (hp : Szs p) : ∀ (n : Nat) (d : Int), n ≤ 20000 → 1 ≤ d → d ≤ 401 → CallOK Try.prog 61 [.ptr 0 0 0, .agg (prf p), .int .i64 d] [.rows 2 [[.bool u, .int .i64 (n : Int)]]] (.agg [.int .i64 (lookF u p n d).2.1, .int .i64 (lookF u p n d).2.2]) [.rows 2 [[.bool u, .int .i64 ((lookF u p n d).1 : Int)]]] := by
  induction p using Pf.ind with
  | h p ih =>
    intro n d hn hd0 hd
    have hf := fun a b => fault_calculus a b
    have hq := CheckSequent_calculus p.l p.r (by have := hp.sz.l; omega) (by have := hp.sz.r; omega)
    have hst := step_calculus u p hp.sz (fun k hk => (hp.kid hk).sz)
    rw [lookF_eq]
    refine fi61.og ?_
    by_cases h1 : 20000 ≤ n
    · have h1i : (20000 : Int) ≤ (n : Int) := by omega
      rw [if_pos (.inl h1)]
      ((refine Sg.h ?_); try repeat' ((first | (with_reducible first | refine Sg.mk ?_ | refine brA ?_ | refine brE fun _ => ?_ | (refine spl (And.intro ?_ ?_) <;> intro _)) | (refine clo (hf 2 0) ?_)) <;> ((try simp (implicitDefEqProofs := false) [h1i]); (try simp (implicitDefEqProofs := false) (disch := first | assumption | (try simp only [lens]); omega -splitDisjunctions) [h1i]))))
    · have h1i : ¬ (20000 : Int) ≤ (n : Int) := by omega
      by_cases h2 : 400 < d
      · rw [if_pos (.inr h2)]
        ((refine Sg.h ?_); try repeat' ((first | (with_reducible first | refine Sg.mk ?_ | refine brA ?_ | refine brE fun _ => ?_ | (refine spl (And.intro ?_ ?_) <;> intro _)) | (refine clo (hf 2 0) ?_)) <;> ((try simp (implicitDefEqProofs := false) [h1i, h2]); (try simp (implicitDefEqProofs := false) (disch := first | assumption | (try simp only [lens]); omega -splitDisjunctions) [h1i, h2]))))
      · rw [if_neg (by omega)]
        by_cases h3 : (sequentF p.l p.r).1 = 0
        · by_cases h4 : u = true ∧ 1 < p.r.length
          · rw [if_pos (.inr h4)]
            obtain ⟨rfl, h4⟩ := h4
            have h4i : (1 : Int) < (p.r.length : Int) := by omega
            ((refine Sg.h ?_); try repeat' ((first | (with_reducible first | refine Sg.mk ?_ | refine brA ?_ | refine brE fun _ => ?_ | (refine spl (And.intro ?_ ?_) <;> intro _)) | (refine clo hq ?_) | (refine clo (hf 5 n) ?_)) <;> ((try simp (implicitDefEqProofs := false) [h1i, h2, h3, h4i]); (try simp (implicitDefEqProofs := false) (disch := first | assumption | (try simp only [lens]); omega -splitDisjunctions) [h1i, h2, h3, h4i]))))
          · rw [if_neg (by rintro (h | h); exact h h3; exact h4 h)]
            have h5 : u = false ∨ (u = true ∧ ¬ (1 : Int) < (p.r.length : Int)) := by
              cases u with
              | false => exact .inl rfl
              | true => exact .inr ⟨rfl, fun h => h4 ⟨rfl, by omega⟩⟩
            generalize hS : stepF u p = S at *
            by_cases h6 : S = 0
            · rw [if_neg (by simpa using h6)]
              generalize hR : looksF u p.kids (n + 1) (d + 1) = R at *
              have key : p.kids.length ≤ 9223372036854775807 → W (cx61 Try.prog 1) 0 x61_L0 (KS.seq x61_T1 (KS.fin [ResultVar.cell 6 33] (gcFin 1 (PV.agg [PV.int IntKind.i64 R.snd.fst, PV.int IntKind.i64 R.snd.snd]) [PObj.rows 2 [[PV.bool u, PV.int IntKind.i64 ↑R.fst]]]))) [(0, PV.ptr 0 0 0), (2, PV.int IntKind.i64 d), (6, PV.ptr 1 0 0), (62, PV.list (List.map prf p.kids)), (63, PV.int IntKind.i64 ↑p.kids.length), (64, PV.int IntKind.i64 0)] [PObj.rows 2 [[PV.bool u, PV.int IntKind.i64 ((n : Int) + 1)]], PObj.rows 2 [[PV.int IntKind.i64 0, PV.int IntKind.i64 0]]] := by
                intro hkl
                refine W_of fun Q hQ => ?_
                have main : ∀ j i m, i + j = p.kids.length → m ≤ 20000 → looksF u (p.kids.drop i) m (d + 1) = R → Q [(0, PV.ptr 0 0 0), (2, PV.int IntKind.i64 d), (6, PV.ptr 1 0 0), (62, PV.list (List.map prf p.kids)), (63, PV.int IntKind.i64 ↑p.kids.length), (64, PV.int IntKind.i64 (i : Int))] [PObj.rows 2 [[PV.bool u, PV.int IntKind.i64 (m : Int)]], PObj.rows 2 [[PV.int IntKind.i64 0, PV.int IntKind.i64 0]]] := by
                  intro j
                  induction j with
                  | zero =>
                    intro i m hi hm he
                    rw [List.drop_of_length_le (by omega), looksF] at he
                    apply hQ
                    clear hQ
                    subst he
                    ((refine Sg.h ?_); try repeat' ((first | (with_reducible first | refine Sg.mk ?_ | refine brA ?_ | refine brE fun _ => ?_ | (refine spl (And.intro ?_ ?_) <;> intro _))) <;> ((try simp (implicitDefEqProofs := false)); (try simp (implicitDefEqProofs := false) (disch := first | assumption | (try simp only [lens]); omega -splitDisjunctions)))))
                  | succ j ihj =>
                    intro i m hi hm he
                    have hil : i < p.kids.length := by omega
                    have hkm := List.getElem_mem hil
                    have hc := ih _ hkm (hp.kid hkm) m (d + 1) hm (by omega) (by omega)
                    have hle := lookF_le u p.kids[i] m (d + 1) hm
                    rw [List.drop_eq_getElem_cons hil, looksF] at he
                    have ihj := ihj (i + 1)
                    generalize lookF u p.kids[i] m (d + 1) = V at *
                    obtain ⟨c, a, b⟩ := V
                    dsimp only at hc hle he
                    apply hQ
                    clear hQ
                    by_cases h0 : a = 0
                    · rw [if_neg (by simpa using h0)] at he
                      have ihj := ihj c (by omega) (hle h0) he
                      subst h0
                      ((refine Sg.h ?_); try repeat' ((first | (with_reducible first | refine Sg.mk ?_ | refine brA ?_ | refine brE fun _ => ?_ | (refine spl (And.intro ?_ ?_) <;> intro _))) <;> ((try simp (implicitDefEqProofs := false) [hil]); (try simp (implicitDefEqProofs := false) (disch := first | assumption | (try simp only [lens]); omega -splitDisjunctions) [hil]))))
                      refine CL.sub [0] (hc := by simpa using hc) ?_
                      ((refine Sg.h ?_); try repeat' ((first | (with_reducible first | refine Sg.mk ?_ | refine brA ?_ | refine brE fun _ => ?_ | (refine spl (And.intro ?_ ?_) <;> intro _))) <;> ((try simp (implicitDefEqProofs := false)); (try simp (implicitDefEqProofs := false) (disch := first | assumption | (try simp only [lens]); omega -splitDisjunctions)))))
                      all_goals first | exact ihj | (refine at2 ihj ?_ ?_ <;> simp; done) | (exfalso; first | omega | (simp_all; done) | (simp_all; omega))
                    · rw [if_pos h0] at he
                      subst he
                      ((refine Sg.h ?_); try repeat' ((first | (with_reducible first | refine Sg.mk ?_ | refine brA ?_ | refine brE fun _ => ?_ | (refine spl (And.intro ?_ ?_) <;> intro _))) <;> ((try simp (implicitDefEqProofs := false) [hil]); (try simp (implicitDefEqProofs := false) (disch := first | assumption | (try simp only [lens]); omega -splitDisjunctions) [hil]))))
                      refine CL.sub [0] (hc := by simpa using hc) ?_
                      ((refine Sg.h ?_); try repeat' ((first | (with_reducible first | refine Sg.mk ?_ | refine brA ?_ | refine brE fun _ => ?_ | (refine spl (And.intro ?_ ?_) <;> intro _))) <;> ((try simp (implicitDefEqProofs := false) [h0]); (try simp (implicitDefEqProofs := false) (disch := first | assumption | (try simp only [lens]); omega -splitDisjunctions) [h0]))))
                have m0 := main _ 0 (n + 1) (Nat.zero_add _) (by omega) (by simpa using hR)
                all_goals first | exact m0 | (refine at2 m0 ?_ ?_ <;> simp; done) | (exfalso; first | omega | (simp_all; done) | (simp_all; omega))
              rcases h5 with rfl | ⟨rfl, h5⟩
              · ((refine Sg.h ?_); try repeat' ((first | (with_reducible first | refine Sg.mk ?_ | refine brA ?_ | refine brE fun _ => ?_ | (refine spl (And.intro ?_ ?_) <;> intro _)) | (refine clo hq ?_) | (refine clo hst ?_)) <;> ((try simp (implicitDefEqProofs := false) [h1i, h2, h3, h6]); (try simp (implicitDefEqProofs := false) (disch := first | assumption | (try simp only [lens]); omega -splitDisjunctions) [h1i, h2, h3, h6]))))
                all_goals exact key (by assumption)
              · ((refine Sg.h ?_); try repeat' ((first | (with_reducible first | refine Sg.mk ?_ | refine brA ?_ | refine brE fun _ => ?_ | (refine spl (And.intro ?_ ?_) <;> intro _)) | (refine clo hq ?_) | (refine clo hst ?_)) <;> ((try simp (implicitDefEqProofs := false) [h1i, h2, h3, h5, h6]); (try simp (implicitDefEqProofs := false) (disch := first | assumption | (try simp only [lens]); omega -splitDisjunctions) [h1i, h2, h3, h5, h6]))))
                all_goals exact key (by assumption)
            · rw [if_pos h6]
              rcases h5 with rfl | ⟨rfl, h5⟩
              · ((refine Sg.h ?_); try repeat' ((first | (with_reducible first | refine Sg.mk ?_ | refine brA ?_ | refine brE fun _ => ?_ | (refine spl (And.intro ?_ ?_) <;> intro _)) | (refine clo hq ?_) | (refine clo hst ?_) | (refine clo (hf S n) ?_)) <;> ((try simp (implicitDefEqProofs := false) [h1i, h2, h3, h6]); (try simp (implicitDefEqProofs := false) (disch := first | assumption | (try simp only [lens]); omega -splitDisjunctions) [h1i, h2, h3, h6]))))
              · ((refine Sg.h ?_); try repeat' ((first | (with_reducible first | refine Sg.mk ?_ | refine brA ?_ | refine brE fun _ => ?_ | (refine spl (And.intro ?_ ?_) <;> intro _)) | (refine clo hq ?_) | (refine clo hst ?_) | (refine clo (hf S n) ?_)) <;> ((try simp (implicitDefEqProofs := false) [h1i, h2, h3, h5, h6]); (try simp (implicitDefEqProofs := false) (disch := first | assumption | (try simp only [lens]); omega -splitDisjunctions) [h1i, h2, h3, h5, h6]))))
        · rw [if_pos (.inl h3)]
          generalize sequentF p.l p.r = E at *
          ((refine Sg.h ?_); try repeat' ((first | (with_reducible first | refine Sg.mk ?_ | refine brA ?_ | refine brE fun _ => ?_ | (refine spl (And.intro ?_ ?_) <;> intro _)) | (refine clo hq ?_) | (refine clo (hf 5 n) ?_)) <;> ((try simp (implicitDefEqProofs := false) [h1i, h2, h3]); (try simp (implicitDefEqProofs := false) (disch := first | assumption | (try simp only [lens]); omega -splitDisjunctions) [h1i, h2, h3]))))
def x16 : XC := .seq (.reg [⟨some 2,.box 29 (.tmp 0),none⟩,⟨some 4,.alloc 33,none⟩]) (.seq (.reg [⟨some 6,.move (.tmp 1),none⟩,⟨some 7,.build 86 #[(0,.tmp 6)],none⟩,⟨some 8,.box 86 (.tmp 7),none⟩,⟨some 5,.assign (.tmp 8),none⟩]) (.seq (.reg [⟨some 9,.move (.tmp 5),none⟩,⟨some 10,.load 29 (.tmp 2),none⟩,⟨some 11,.call ⟨.value (.func 61),#[.tmp 9,.tmp 10,.const (.int .i64 1)],#[84,29,3]⟩,none⟩,⟨none,.store 33 (.tmp 4) (.tmp 11),none⟩]) (.ret)))
@[simp] theorem x16_s {C : WC} {e : AE} {s : Store} {K : KS} : type_of% (@X_at C e s K _ _ x16.eq_1) := X_at x16.eq_1
def an16 : Ann := ⟨[], [], []⟩
def cx16 (P : Program) (m : Nat) : WC := ⟨P, m, an16⟩
@[simp] theorem cx16_a {P : Program} {m : Nat} : (cx16 P m).P = P ∧ (cx16 P m).m = m := ⟨rfl, rfl⟩
instance {P : Program} {m f : Nat} [h : EnT P f] : EnT (cx16 P m).P f := h
theorem fi16 : FI Try.prog 16 cx16 x16 [.cell 4 33] Try.f16 := fiOf (fun _ _ => rfl) (by decide +kernel) Try.func16 (by kernel_rfl) (by kernel_rfl) mixed

noncomputable def checkF (u : Bool) (p : Pf) : Int × Int := (lookF u p 0 1).2
theorem Check_calculus (u : Bool) (p : Pf) (hp : Szs p) : CallOK Try.prog 16 [.agg (prf p), .bool u] [] (.agg [.int .i64 (checkF u p).1, .int .i64 (checkF u p).2]) [] := by
  have h := look_calculus u p hp 0 1 (by omega) (by decide) (by decide)
  unfold checkF
  generalize lookF u p 0 1 = V at *
  refine fi16.op ?_
  ((refine Sg.h ?_); try repeat' ((first | (with_reducible first | refine Sg.mk ?_ | refine brA ?_ | refine brE fun _ => ?_ | (refine spl (And.intro ?_ ?_) <;> intro _))) <;> ((try simp (implicitDefEqProofs := false)); (try simp (implicitDefEqProofs := false) (disch := first | assumption | (try simp only [lens]); omega -splitDisjunctions)))))
  refine CL.sub [2] (hc := by simpa using h) ?_
  ((refine Sg.h ?_); try repeat' ((first | (with_reducible first | refine Sg.mk ?_ | refine brA ?_ | refine brE fun _ => ?_ | (refine spl (And.intro ?_ ?_) <;> intro _))) <;> ((try simp (implicitDefEqProofs := false)); (try simp (implicitDefEqProofs := false) (disch := first | assumption | (try simp only [lens]); omega -splitDisjunctions)))))
def x28 : XC := .seq (.reg [⟨some 2,.box 29 (.tmp 0),none⟩,⟨some 4,.assign (.const (.int .i64 0)),none⟩,⟨some 5,.alloc 33,none⟩]) (.seq (.seq (.reg [⟨some 7,.load 29 (.tmp 2),none⟩,⟨some 8,.move (.tmp 1),none⟩,⟨some 9,.call ⟨.value (.func 16),#[.tmp 7,.tmp 8],#[29,4]⟩,none⟩,⟨some 6,.alloc 33,none⟩,⟨none,.store 33 (.tmp 6) (.tmp 9),none⟩]) (.seq (.reg [⟨some 10,.fieldAddr 33 (.tmp 6) 0,none⟩,⟨some 11,.load 3 (.tmp 10),none⟩,⟨some 12,.binOp .neq 3 (.tmp 11) (.const (.int .i64 0)) 3,none⟩]) (.cond (.tmp 12) (.seq (.drawn 3 [⟨some 13,.load 33 (.tmp 6),none⟩,⟨some 4,.assign (.const (.int .i64 0)),none⟩,⟨none,.store 33 (.tmp 5) (.tmp 13),none⟩]) (.ret)) (.skip)))) (.seq (.reg [⟨some 14,.load 29 (.tmp 2),none⟩,⟨some 15,.call ⟨.value (.func 66),#[.tmp 14],#[29]⟩,none⟩,⟨some 16,.build 33 #[],none⟩,⟨some 4,.assign (.tmp 15),none⟩,⟨none,.store 33 (.tmp 5) (.tmp 16),none⟩]) (.ret)))
@[simp] theorem x28_s {C : WC} {e : AE} {s : Store} {K : KS} : type_of% (@X_at C e s K _ _ x28.eq_1) := X_at x28.eq_1
def an28 : Ann := ⟨[], [], []⟩
def cx28 (P : Program) (m : Nat) : WC := ⟨P, m, an28⟩
@[simp] theorem cx28_a {P : Program} {m : Nat} : (cx28 P m).P = P ∧ (cx28 P m).m = m ∧ (cx28 P m).A.clsOf 3 = .draw ∧ (cx28 P m).A.frzOf 3 = [] := ⟨rfl, rfl, rfl, rfl⟩
instance {P : Program} {m f : Nat} [h : EnT P f] : EnT (cx28 P m).P f := h
theorem fi28 : FI Try.prog 28 cx28 x28 [.tmp 4, .cell 5 33] Try.f28 := fiOf (fun _ _ => rfl) (by decide +kernel) Try.func28 (by kernel_rfl) (by kernel_rfl) mixed

theorem Cuts_calculus (u : Bool) (p : Pf) (hp : Szs p) (hc : (checkF u p).1 = 0 → cutsP p ≤ 1000000000) : CallOK Try.prog 28 [.agg (prf p), .bool u] [] (.tuple [.int .i64 (if (checkF u p).1 ≠ 0 then 0 else (cutsP p : Int)), .agg [.int .i64 (if (checkF u p).1 ≠ 0 then (checkF u p).1 else 0), .int .i64 (if (checkF u p).1 ≠ 0 then (checkF u p).2 else 0)]]) [] := by
  have h := Check_calculus u p hp
  by_cases h0 : (checkF u p).1 = 0
  · have h2 := cuts_calculus p (hc h0)
    have e0 : ¬ ((checkF u p).1 ≠ 0) := by simpa using h0
    rw [if_neg e0, if_neg e0, if_neg e0]
    refine fi28.op ?_
    generalize checkF u p = V at *
    ((refine Sg.h ?_); try repeat' ((first | (with_reducible first | refine Sg.mk ?_ | refine brA ?_ | refine brE fun _ => ?_ | (refine spl (And.intro ?_ ?_) <;> intro _)) | (refine clo h ?_) | (refine clo h2 ?_)) <;> ((try simp (implicitDefEqProofs := false) [h0]); (try simp (implicitDefEqProofs := false) (disch := first | assumption | (try simp only [lens]); omega -splitDisjunctions) [h0]))))
  · rw [if_pos h0, if_pos h0, if_pos h0]
    refine fi28.op ?_
    generalize checkF u p = V at *
    ((refine Sg.h ?_); try repeat' ((first | (with_reducible first | refine Sg.mk ?_ | refine brA ?_ | refine brE fun _ => ?_ | (refine spl (And.intro ?_ ?_) <;> intro _)) | (refine clo h ?_)) <;> ((try simp (implicitDefEqProofs := false) [h0]); (try simp (implicitDefEqProofs := false) (disch := first | assumption | (try simp only [lens]); omega -splitDisjunctions) [h0]))))
end Go.Proofs.Ytnoklmapofogeaa
