/-
  law03: ownList; sequentref: Steps.
-/
import Derived.Test.YtnoklmapofogeaaXCcT
namespace Go.Proofs.Ytnoklmapofogeaa
open Go Go.Pv
set_option linter.unusedVariables false
set_option linter.unusedSimpArgs false
set_option maxRecDepth 100000
set_option maxHeartbeats 4000000

theorem vastP_all {p : Pf} {d : Int} (h : vastP p d = false) : p.kids.length ≤ 1200 ∧ p.l.length ≤ 300 ∧ p.r.length ≤ 300 ∧ vastB p.f 0 = false ∧ (∀ f ∈ p.l, vastB f 0 = false) ∧ (∀ f ∈ p.r, vastB f 0 = false) ∧ ∀ k ∈ p.kids, vastP k (d + 1) = false := by
  rw [vastP_eq] at h
  simp only [Bool.or_eq_false_iff, decide_eq_false_iff_not] at h
  obtain ⟨h1, h2, h3, h4, h5, h6, h7, h8⟩ := h
  have key : ∀ l : List Fm, vastsB l 0 = false → ∀ f ∈ l, vastB f 0 = false := by
    intro l
    induction l with
    | nil => intro _ f hf; cases hf
    | cons a r ih =>
      intro h f hf
      rw [vastsB, Bool.or_eq_false_iff] at h
      rcases List.mem_cons.1 hf with rfl | hf
      · exact h.1
      · exact ih h.2 f hf
  exact ⟨by omega, by omega, by omega, h5, key _ h6, key _ h7, vastPs_mem h8⟩
/-! steps -/
theorem preDs_snoc (l : List Pf) (q : Pf) (d : Int) : preDs (l ++ [q]) d = preDs l d ++ preD q d := by
  rw [preDs_eq, preDs_eq, List.flatMap_append]; simp
def depRow (x : Pf × Int) : List PV := [.int .i64 x.2]
def stpRow (x : Pf × Int) : List PV := prf x.1
@[simp] theorem stpRow_eq (x : Pf × Int) : stpRow x = prf x.1 := rfl
@[simp] theorem depRow_eq (x : Pf × Int) : depRow x = [.int .i64 x.2] := rfl
instance : FlatRow stpRow := ⟨fun x => prf_flat x.1⟩
instance : FlatRow depRow := ⟨fun x => rfl⟩
def x23_T1 : XC := .seq (.reg [⟨some 55,.move (.tmp 8),none⟩,⟨some 56,.move (.tmp 9),none⟩,⟨some 6,.assign (.tmp 55),none⟩,⟨some 7,.assign (.tmp 56),none⟩]) (.ret)
def x23_L0 : XC := .seq (.seq (.reg [⟨some 17,.move (.tmp 10),none⟩,⟨some 18,.fieldAddr 29 (.tmp 3) 3,none⟩,⟨some 19,.load 27 (.tmp 18),none⟩,⟨some 20,.call ⟨.builtin .len,#[.tmp 19],#[27]⟩,none⟩,⟨some 21,.binOp .lss 3 (.tmp 17) (.tmp 20) 3,none⟩,⟨some 22,.move (.tmp 21),none⟩,⟨some 23,.move (.tmp 8),some (some 22,true)⟩,⟨some 24,.call ⟨.builtin .len,#[.tmp 23],#[27]⟩,some (some 22,true)⟩,⟨some 25,.move (.tmp 2),some (some 22,true)⟩,⟨some 26,.binOp .leq 3 (.tmp 24) (.tmp 25) 3,some (some 22,true)⟩,⟨some 27,.pick (.tmp 22) (.tmp 26) (.const (.bool false)),none⟩,⟨some 28,.move (.tmp 27),none⟩,⟨some 29,.move (.tmp 1),some (some 28,true)⟩,⟨some 30,.binOp .lss 3 (.tmp 29) (.const (.int .i64 402)) 3,some (some 28,true)⟩,⟨some 31,.pick (.tmp 28) (.tmp 30) (.const (.bool false)),none⟩]) (.cond (.tmp 31) (.skip) (.exit 0))) (.seq (.block 1 (.seq (.reg [⟨some 35,.fieldAddr 29 (.tmp 3) 3,none⟩,⟨some 36,.load 27 (.tmp 35),none⟩,⟨some 37,.move (.tmp 10),none⟩,⟨some 38,.indexAddr 27 (.tmp 36) (.tmp 37),none⟩,⟨some 39,.load 29 (.tmp 38),none⟩,⟨some 40,.move (.tmp 1),none⟩,⟨some 41,.binOp .add 3 (.tmp 40) (.const (.int .i64 1)) 3,none⟩,⟨some 42,.move (.tmp 2),none⟩,⟨some 43,.move (.tmp 8),none⟩,⟨some 44,.call ⟨.builtin .len,#[.tmp 43],#[27]⟩,none⟩,⟨some 45,.binOp .sub 3 (.tmp 42) (.tmp 44) 3,none⟩,⟨some 46,.call ⟨.value (.func 23),#[.tmp 39,.tmp 41,.tmp 45],#[29,3,3]⟩,none⟩,⟨some 34,.move (.tmp 46),none⟩,⟨some 47,.extract (.tmp 34) 0,none⟩,⟨some 48,.extract (.tmp 34) 1,none⟩,⟨some 11,.assign (.tmp 47),none⟩,⟨some 12,.assign (.tmp 48),none⟩]) (.seq (.reg [⟨some 49,.move (.tmp 8),none⟩,⟨some 50,.move (.tmp 11),none⟩,⟨some 51,.call ⟨.builtin .append,#[.tmp 49,.tmp 50],#[27,27]⟩,none⟩,⟨some 8,.assign (.tmp 51),none⟩]) (.reg [⟨some 52,.move (.tmp 9),none⟩,⟨some 53,.move (.tmp 12),none⟩,⟨some 54,.call ⟨.builtin .append,#[.tmp 52,.tmp 53],#[43,43]⟩,none⟩,⟨some 9,.assign (.tmp 54),none⟩])))) (.reg [⟨some 32,.move (.tmp 10),none⟩,⟨some 33,.binOp .add 3 (.tmp 32) (.const (.int .i64 1)) 3,none⟩,⟨some 10,.assign (.tmp 33),none⟩]))
def x23 : XC := .seq (.reg [⟨some 3,.box 29 (.tmp 0),none⟩,⟨some 6,.assign (.const (.slice none 0 0)),none⟩,⟨some 7,.assign (.const (.slice none 0 0)),none⟩]) (.seq (.reg [⟨some 13,.load 29 (.tmp 3),none⟩,⟨some 14,.buildSlice 27 1 #[(0,.tmp 13)],none⟩,⟨some 8,.assign (.tmp 14),none⟩]) (.seq (.reg [⟨some 15,.move (.tmp 1),none⟩,⟨some 16,.buildSlice 43 1 #[(0,.tmp 15)],none⟩,⟨some 9,.assign (.tmp 16),none⟩]) (.seq (.seq (.reg [⟨some 10,.assign (.const (.int .i64 0)),none⟩]) (.bloop 0 x23_L0)) (x23_T1))))
@[simp] theorem x23_s {C : WC} {e : AE} {s : Store} {K : KS} : type_of% (@X_at C e s K _ _ x23_T1.eq_1) ∧ type_of% (@X_at C e s K _ _ x23_L0.eq_1) ∧ type_of% (@X_at C e s K _ _ x23.eq_1) := ⟨X_at x23_T1.eq_1, X_at x23_L0.eq_1, X_at x23.eq_1⟩
def an23 : Ann := ⟨[], [(0, [(8, none, 7), (9, none, 1)], [1, 2, 3, 8, 9, 10], [8, 9])], []⟩
def cx23 (P : Program) (m : Nat) : WC := ⟨P, m, an23⟩
@[simp] theorem cx23_a {P : Program} {m : Nat} : (cx23 P m).P = P ∧ (cx23 P m).m = m ∧ (cx23 P m).A.loopOf 0 = ([(8, none, 7), (9, none, 1)], [1, 2, 3, 8, 9, 10], [8, 9]) := ⟨rfl, rfl, rfl⟩
instance {P : Program} {m f : Nat} [h : EnT P f] : EnT (cx23 P m).P f := h
theorem chk23 : ∀ c, Try.f23.body = some c → chkC Try.f23.ntmps an23 c = true := by intro c h; obtain rfl := Option.some.inj h; decide +kernel
theorem op23 {args : List PV} {v : PV} (h : X (cx23 Try.prog 0) x23 (argsA 0 args) [] (.fin [.tmp 6, .tmp 7] fun v1 s1 => deref s1 6 v1 = v)) (hl : args.length ≤ Try.f23.ntmps := by rw [Try.ntmps23]; simp) : CallOK Try.prog 23 args [] v [] :=
  callX (m := 0) (cx23 Try.prog 0) x23 rfl rfl (by kernel_rfl) Try.func23 rfl rfl hl mixed (chk23 _ rfl) (by rw [Try.results23]; exact h)

theorem Steps_ref (p : Pf) (hp : Szs p) : ∀ (d : Int) (m : Nat), 1 ≤ d → d ≤ 402 → m ≤ 20001 → CallOK Try.prog 23 [.agg (prf p), .int .i64 d, .int .i64 (m : Int)] [] (.tuple [.list (((preD p d).take (m + 1)).map stpRow), .list (((preD p d).take (m + 1)).map depRow)]) [] := by
  induction p using Pf.ind with
  | h p ih =>
    intro d m hd0 hd hm
    have hkl := hp.len
    refine op23 ?_
    rw [preD_eq, List.take_succ_cons]
    generalize hR : (p, d) :: (if d < 402 then preDs p.kids (d + 1) else []).take m = R
    (((try simp (implicitDefEqProofs := false)); (try simp (implicitDefEqProofs := false) (disch := first | assumption | (try simp only [lens]); omega -splitDisjunctions))); all_goals try (repeat' ((first | ((with_reducible first | refine And.intro ?_ ?_ | refine Exists.intro ?_ ?_); first | omega | (simp <;> omega)) | (with_reducible refine spl (And.intro ?_ ?_) <;> intro _)) <;> ((try simp (implicitDefEqProofs := false)); (try simp (implicitDefEqProofs := false) (disch := first | assumption | (try simp only [lens]); omega -splitDisjunctions))))))
    refine W_of fun Q hQ => ?_
    by_cases hd2 : d < 402
    · rw [if_pos hd2] at hR
      have main : ∀ r i (A : List (Pf × Int)), i + r = p.kids.length → A = preDs (p.kids.take i) (d + 1) → Q [(1, .int .i64 d), (2, .int .i64 (m : Int)), (3, .ptr 0 0 0), (8, .sl 1 0 ((p, d) :: A.take m).length), (9, .sl 2 0 ((p, d) :: A.take m).length), (10, .int .i64 (i : Int))] [.rows 7 [prf p], .rows 7 (((p, d) :: A.take m).map stpRow), .rows 1 (((p, d) :: A.take m).map depRow)] := by
        intro r
        induction r with
        | zero =>
          intro i A hi hA
          obtain rfl : i = p.kids.length := by omega
          rw [List.take_length] at hA
          rw [← hA] at hR
          rw [hR]
          apply hQ
          clear hQ
          (((try simp (implicitDefEqProofs := false)); (try simp (implicitDefEqProofs := false) (disch := first | assumption | (try simp only [lens]); omega -splitDisjunctions))); all_goals try (repeat' ((first | ((with_reducible first | refine And.intro ?_ ?_ | refine Exists.intro ?_ ?_); first | omega | (simp <;> omega)) | (with_reducible refine spl (And.intro ?_ ?_) <;> intro _)) <;> ((try simp (implicitDefEqProofs := false)); (try simp (implicitDefEqProofs := false) (disch := first | assumption | (try simp only [lens]); omega -splitDisjunctions))))))
        | succ r ihr =>
          intro i A hi hA
          have hil : i < p.kids.length := by omega
          have hl : ((p, d) :: A.take m).length = 1 + min m A.length := by rw [List.length_cons, List.length_take]; omega
          by_cases hm2 : A.length < m
          · have hc := ih p.kids[i] (List.getElem_mem hil) (hp.kid (List.getElem_mem hil)) (d + 1) (m - 1 - A.length) (by omega) (by omega) (by omega)
            have ihr := ihr (i + 1) (A ++ preD p.kids[i] (d + 1)) (by omega) (by rw [take_snoc hil, preDs_snoc, hA])
            rw [List.take_append] at ihr
            rw [show m - 1 - A.length + 1 = m - A.length from by omega] at hc
            have hle : (((p, d) :: A.take m).length : Int) ≤ (m : Int) := by omega
            have hsub : (m : Int) - (((p, d) :: A.take m).length : Int) = ((m - 1 - A.length : Nat) : Int) := by omega
            rw [← hsub] at hc
            rw [← List.cons_append] at ihr
            have hll : ((preD p.kids[i] (d + 1)).take (m - A.length)).length ≤ 20001 := by rw [List.length_take]; omega
            generalize (preD p.kids[i] (d + 1)).take (m - A.length) = B at *
            generalize (p, d) :: A.take m = L at *
            clear hR hA hl
            apply hQ
            clear hQ
            (((try simp (implicitDefEqProofs := false) [hil, hle, hd2]); (try simp (implicitDefEqProofs := false) (disch := first | assumption | (try simp only [lens]); omega -splitDisjunctions) [hil, hle, hd2])); all_goals try (repeat' ((first | ((with_reducible first | refine And.intro ?_ ?_ | refine Exists.intro ?_ ?_); first | omega | (simp <;> omega)) | (with_reducible refine spl (And.intro ?_ ?_) <;> intro _) | (refine CL.clo (hc) ?_) | (refine CM.clo (hc) ?_) | (refine CD.clo (hc) ?_)) <;> ((try simp (implicitDefEqProofs := false) [hil, hle, hd2]); (try simp (implicitDefEqProofs := false) (disch := first | assumption | (try simp only [lens]); omega -splitDisjunctions) [hil, hle, hd2])))))
            refine ⟨⟨by rintro _ x y _ rfl; simp, by omega⟩, ⟨by rintro _ x y _ rfl; simp, by omega⟩, ?_⟩
            all_goals first | exact ihr | (refine at2 ihr ?_ ?_ <;> simp; done) | (exfalso; first | omega | (simp_all; done) | (simp_all; omega))
          · have hle : ¬ (((p, d) :: A.take m).length : Int) ≤ (m : Int) := by omega
            have he : (p, d) :: A.take m = R := by
              rw [← hR]
              congr 1
              have : preDs p.kids (d + 1) = A ++ preDs (p.kids.drop i) (d + 1) := by
                rw [hA, preDs_eq, preDs_eq, preDs_eq, ← List.flatMap_append, List.take_append_drop]
              rw [this, List.take_append_of_le_length (by omega)]
            rw [he] at hle ⊢
            apply hQ
            clear hQ
            (((try simp (implicitDefEqProofs := false) [hil, hle]); (try simp (implicitDefEqProofs := false) (disch := first | assumption | (try simp only [lens]); omega -splitDisjunctions) [hil, hle])); all_goals try (repeat' ((first | ((with_reducible first | refine And.intro ?_ ?_ | refine Exists.intro ?_ ?_); first | omega | (simp <;> omega)) | (with_reducible refine spl (And.intro ?_ ?_) <;> intro _)) <;> ((try simp (implicitDefEqProofs := false) [hil, hle]); (try simp (implicitDefEqProofs := false) (disch := first | assumption | (try simp only [lens]); omega -splitDisjunctions) [hil, hle])))))
      have m0 := main _ 0 [] (Nat.zero_add _) rfl
      all_goals first | exact m0 | (refine at2 m0 ?_ ?_ <;> simp; done) | (exfalso; first | omega | (simp_all; done) | (simp_all; omega))
    · rw [if_neg hd2] at hR
      subst hR
      apply hQ
      clear hQ
      (((try simp (implicitDefEqProofs := false) [hd2]); (try simp (implicitDefEqProofs := false) (disch := first | assumption | (try simp only [lens]); omega -splitDisjunctions) [hd2])); all_goals try (repeat' ((first | ((with_reducible first | refine And.intro ?_ ?_ | refine Exists.intro ?_ ?_); first | omega | (simp <;> omega)) | (with_reducible refine spl (And.intro ?_ ?_) <;> intro _)) <;> ((try simp (implicitDefEqProofs := false) [hd2]); (try simp (implicitDefEqProofs := false) (disch := first | assumption | (try simp only [lens]); omega -splitDisjunctions) [hd2])))))
end Go.Proofs.Ytnoklmapofogeaa
