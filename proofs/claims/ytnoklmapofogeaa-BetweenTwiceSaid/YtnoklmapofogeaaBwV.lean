/-
  sequentlaw.BetweenTwice, told without memory.
-/
import Derived.Test.YtnoklmapofogeaaBwS
namespace Go.Proofs.Ytnoklmapofogeaa
open Go Go.Pv
set_option linter.unusedVariables false
set_option linter.unusedSimpArgs false
set_option maxRecDepth 100000
set_option maxHeartbeats 4000000

theorem nodup_le : ∀ {l m : List ByteArray}, l.Nodup → (∀ x ∈ l, x ∈ m) → l.length ≤ m.length
  | [], m, _, _ => Nat.zero_le _
  | a :: r, m, hd, hs => by
    rw [List.nodup_cons] at hd
    have ha := hs a List.mem_cons_self
    have h1 : ∀ x ∈ r, x ∈ m.filter fun x => decide (x ≠ a) := fun x hx => List.mem_filter.2 ⟨hs x (List.mem_cons_of_mem _ hx), decide_eq_true (by rintro rfl; exact hd.1 hx)⟩
    have h2 := nodup_le hd.2 h1
    have h3 : (m.filter fun x => decide (x ≠ a)).length < m.length := List.length_filter_lt_length_iff_exists.2 ⟨a, ha, by simp⟩
    rw [List.length_cons]; omega
theorem projectV_zero {f : Fm} {ns : List ByteArray} (h : (lookV [f]).2.1 = 0) (h0 : (projectV f ns).2.1 = 0) : ns.length ≤ 1000 ∧ nameBad ns 0 = none ∧ projectV f ns = (projF f ns, (0, 0)) := by
  unfold projectV at h0 ⊢
  rw [if_neg (by simpa using h)] at h0 ⊢
  by_cases hl : 1000 < ns.length
  · rw [if_pos hl] at h0; simp at h0
  · rw [if_neg hl] at h0 ⊢
    cases hb : nameBad ns 0 with
    | none => exact ⟨by omega, rfl, rfl⟩
    | some w => rw [hb] at h0; have := nameBad_code _ _ _ hb; dsimp only at h0; omega
theorem nameBad_all {l : List ByteArray} : ∀ {i : Nat}, nameBad l i = none → ∀ x ∈ l, isNameB x = true := by
  induction l with
  | nil => intro i _ x hx; cases hx
  | cons a r ih =>
    intro i h x hx
    rw [nameBad] at h
    split at h
    · rcases List.mem_cons.1 hx with rfl | hx
      · assumption
      · exact ih h x hx
    · cases h
theorem look_zero {f : Fm} (h : (plainF f).1 = 0) (h6 : (namesS [f]).length ≤ 6) : (lookV [f]).2.1 = 0 := by
  unfold lookV; rw [plainL_one, if_neg (by simpa using h), if_neg (by omega)]
theorem proj_plain {f : Fm} (a : List ByteArray) (h : (plainF f).1 = 0) (h6 : (namesS [f]).length ≤ 6) (hc : (formulaCheck (projF f a)).1 = 0) : (plainF (projF f a)).1 = 0 ∧ (∀ x ∈ namesS [projF f a], x ∈ inN f a) ∧ (namesS [projF f a]).length ≤ 6 := by
  have hg := proj_good a h h6
  have hl := ((formulaCheck_iff _).1 hc).2
  have hs : ∀ x ∈ namesS [projF f a], x ∈ inN f a := by
    intro x hx
    obtain ⟨g, hgm, y, hy, hk, rfl⟩ := (mem_namesS (fun g hg => by simp at hg; rw [hg]; exact hl) x).1 hx
    simp at hgm; subst hgm
    exact hg.2.1 y hy hk
  exact ⟨(plainF_iff _).2 ⟨hg.1, hl⟩, hs, Nat.le_trans (nodup_le (namesS_nodup _) hs) (Nat.le_trans (List.length_filter_le _ _) h6)⟩
theorem twice {f : Fm} (a b : List ByteArray) (h : (plainF f).1 = 0) (h6 : (namesS [f]).length ≤ 6) (hc : (formulaCheck (projF f a)).1 = 0) (v : ByteArray → Bool) : tv v (projF (projF f a) b) = tv v (projF f (a.filter fun x => memB x b)) := by
  obtain ⟨hx, hs, hx6⟩ := proj_plain a h h6 hc
  have hpl := ((plainF_iff _).1 hx).1
  have hnx := names_one hx
  rw [Bool.eq_iff_iff, proj_iff b hx hx6, proj_iff _ h h6]
  constructor
  · rintro ⟨u, hu, hux⟩
    have e : tv (fun t => if memB t (namesS [projF f a]) = true then u t else v t) (projF f a) = true := by
      exact (tv_names hpl hnx fun t ht => by rw [if_pos (memB_iff.2 ht)]).trans hux
    obtain ⟨w, hw, hwf⟩ := (proj_iff a h h6 _).1 e
    refine ⟨w, fun t ht => ?_, hwf⟩
    obtain ⟨h1, h2⟩ := List.mem_filter.1 ht
    rw [has_mem, memB_iff, List.mem_filter] at h2
    have hta : t ∈ inN f a := List.mem_filter.2 ⟨h1, memB_iff.2 h2.1⟩
    rw [hw t hta]
    by_cases hm : memB t (namesS [projF f a]) = true
    · rw [if_pos hm]; exact hu t (List.mem_filter.2 ⟨memB_iff.1 hm, h2.2⟩)
    · rw [if_neg hm]
  · rintro ⟨w, hw, hwf⟩
    refine ⟨w, fun t ht => ?_, (proj_iff a h h6 w).2 ⟨w, fun _ _ => rfl, hwf⟩⟩
    obtain ⟨h1, h2⟩ := List.mem_filter.1 ht
    obtain ⟨h3, h4⟩ := List.mem_filter.1 (hs t h1)
    exact hw t (List.mem_filter.2 ⟨h3, memB_iff.2 (List.mem_filter.2 ⟨memB_iff.1 h4, h2⟩)⟩)
theorem checkNodes_code : ∀ (l : List Fm) (i : Int) x, checkNodes l i = some x → x.1 ≠ 0
  | [], i, x, h => by rw [checkNodes] at h; cases h
  | a :: r, i, x, h => by
    rw [checkNodes] at h
    split at h
    · cases h; simp
    · split at h
      · cases h; simp
      · split at h
        · cases h; simp
        · split at h
          · cases h; simp
          · exact checkNodes_code r _ x h
theorem fc_zero {f : Fm} (h : (formulaCheck f).1 = 0) : formulaCheck f = (0, 0) := by
  unfold formulaCheck at h ⊢
  cases hc : checkNodes (nodesGo 201 201 [f]) 0 with
  | none => rfl
  | some x =>
    rw [hc] at h
    exact absurd h (checkNodes_code _ _ _ hc)
theorem makes_all {f g : Fm} {ns : List ByteArray} (h : ∀ v, tv v f = tv v g) : makesB f g ns = true := by
  unfold makesB
  rw [List.all_eq_true]
  intro k _
  rw [h]; cases tv _ g <;> rfl
def x10 : XC := .seq (.reg [⟨some 3,.box 24 (.tmp 0),none⟩,⟨some 6,.assign (.const (.bool false)),none⟩]) (.seq (.seq (.reg [⟨some 14,.call ⟨.value (.func 33),#[],#[]⟩,none⟩,⟨some 15,.unOp .not 4 (.tmp 14),none⟩]) (.cond (.tmp 15) (.seq (.reg [⟨some 6,.assign (.const (.bool false)),none⟩]) (.ret)) (.skip))) (.seq (.seq (.reg [⟨some 16,.load 24 (.tmp 3),none⟩,⟨some 17,.call ⟨.value (.func 20),#[.tmp 16,.const (.int .i64 0)],#[24,3]⟩,none⟩,⟨some 18,.move (.tmp 17),none⟩,⟨some 19,.load 24 (.tmp 3),some (some 18,false)⟩,⟨some 20,.buildSlice 22 1 #[(0,.tmp 19)],some (some 18,false)⟩,⟨some 21,.call ⟨.value (.func 36),#[.tmp 20],#[22]⟩,some (some 18,false)⟩,⟨some 22,.field 33 (.tmp 21) 0,some (some 18,false)⟩,⟨some 23,.binOp .neq 3 (.tmp 22) (.const (.int .i64 0)) 3,some (some 18,false)⟩,⟨some 24,.pick (.tmp 18) (.const (.bool true)) (.tmp 23),none⟩]) (.cond (.tmp 24) (.seq (.reg [⟨some 6,.assign (.const (.bool true)),none⟩]) (.ret)) (.skip))) (.seq (.reg [⟨some 26,.load 24 (.tmp 3),none⟩,⟨some 27,.move (.tmp 1),none⟩,⟨some 28,.call ⟨.value (.func 42),#[.tmp 26,.tmp 27],#[24,35]⟩,none⟩,⟨some 25,.move (.tmp 28),none⟩,⟨some 29,.extract (.tmp 25) 0,none⟩,⟨some 30,.extract (.tmp 25) 1,none⟩,⟨some 7,.alloc 24,none⟩,⟨some 8,.alloc 33,none⟩,⟨none,.store 24 (.tmp 7) (.tmp 29),none⟩,⟨none,.store 33 (.tmp 8) (.tmp 30),none⟩]) (.seq (.drawn 6 [⟨some 32,.load 24 (.tmp 3),none⟩,⟨some 33,.move (.tmp 1),none⟩,⟨some 34,.move (.tmp 2),none⟩,⟨some 35,.call ⟨.value (.func 41),#[.tmp 33,.tmp 34],#[35,35]⟩,none⟩,⟨some 36,.call ⟨.value (.func 42),#[.tmp 32,.tmp 35],#[24,35]⟩,none⟩,⟨some 31,.move (.tmp 36),none⟩,⟨some 37,.extract (.tmp 31) 0,none⟩,⟨some 38,.extract (.tmp 31) 1,none⟩,⟨some 9,.alloc 24,none⟩,⟨some 10,.alloc 33,none⟩,⟨none,.store 24 (.tmp 9) (.tmp 37),none⟩,⟨none,.store 33 (.tmp 10) (.tmp 38),none⟩]) (.seq (.seq (.reg [⟨some 39,.fieldAddr 33 (.tmp 8) 0,none⟩,⟨some 40,.load 3 (.tmp 39),none⟩,⟨some 41,.binOp .neq 3 (.tmp 40) (.const (.int .i64 0)) 3,none⟩,⟨some 42,.move (.tmp 41),none⟩,⟨some 43,.load 24 (.tmp 7),some (some 42,false)⟩,⟨some 44,.call ⟨.value (.func 46),#[.tmp 43],#[24]⟩,some (some 42,false)⟩,⟨some 45,.field 33 (.tmp 44) 0,some (some 42,false)⟩,⟨some 46,.binOp .neq 3 (.tmp 45) (.const (.int .i64 0)) 3,some (some 42,false)⟩,⟨some 47,.pick (.tmp 42) (.const (.bool true)) (.tmp 46),none⟩]) (.cond (.tmp 47) (.seq (.reg [⟨some 6,.assign (.const (.bool true)),none⟩]) (.ret)) (.skip))) (.seq (.reg [⟨some 49,.load 24 (.tmp 7),none⟩,⟨some 50,.move (.tmp 2),none⟩,⟨some 51,.call ⟨.value (.func 42),#[.tmp 49,.tmp 50],#[24,35]⟩,none⟩,⟨some 48,.move (.tmp 51),none⟩,⟨some 52,.extract (.tmp 48) 0,none⟩,⟨some 53,.extract (.tmp 48) 1,none⟩,⟨some 11,.alloc 24,none⟩,⟨some 12,.alloc 33,none⟩,⟨none,.store 24 (.tmp 11) (.tmp 52),none⟩,⟨none,.store 33 (.tmp 12) (.tmp 53),none⟩]) (.seq (.seq (.reg [⟨some 54,.fieldAddr 33 (.tmp 12) 0,none⟩,⟨some 55,.load 3 (.tmp 54),none⟩,⟨some 56,.binOp .neq 3 (.tmp 55) (.const (.int .i64 0)) 3,none⟩]) (.cond (.tmp 56) (.seq (.reg [⟨some 57,.fieldAddr 33 (.tmp 12) 0,none⟩,⟨some 58,.load 3 (.tmp 57),none⟩,⟨some 59,.binOp .neq 3 (.tmp 58) (.const (.int .i64 2)) 3,none⟩,⟨some 60,.move (.tmp 59),none⟩,⟨some 61,.move (.tmp 2),some (some 60,false)⟩,⟨some 62,.call ⟨.builtin .len,#[.tmp 61],#[35]⟩,some (some 60,false)⟩,⟨some 63,.binOp .gtr 3 (.tmp 62) (.const (.int .i64 1000)) 3,some (some 60,false)⟩,⟨some 64,.pick (.tmp 60) (.const (.bool true)) (.tmp 63),none⟩,⟨some 6,.assign (.tmp 64),none⟩]) (.ret)) (.skip))) (.seq (.reg [⟨some 65,.load 24 (.tmp 3),none⟩,⟨some 66,.buildSlice 22 1 #[(0,.tmp 65)],none⟩,⟨some 67,.call ⟨.value (.func 17),#[.tmp 66],#[22]⟩,none⟩,⟨some 13,.assign (.tmp 67),none⟩]) (.seq (.reg [⟨some 68,.fieldAddr 33 (.tmp 10) 0,none⟩,⟨some 69,.load 3 (.tmp 68),none⟩,⟨some 70,.binOp .eql 3 (.tmp 69) (.const (.int .i64 0)) 3,none⟩,⟨some 71,.move (.tmp 70),none⟩,⟨some 72,.load 24 (.tmp 11),some (some 71,true)⟩,⟨some 73,.move (.tmp 13),some (some 71,true)⟩,⟨some 74,.call ⟨.value (.func 40),#[.tmp 72,.tmp 73],#[24,35]⟩,some (some 71,true)⟩,⟨some 75,.pick (.tmp 71) (.tmp 74) (.const (.bool false)),none⟩,⟨some 76,.move (.tmp 75),none⟩,⟨some 77,.load 24 (.tmp 9),some (some 76,true)⟩,⟨some 78,.move (.tmp 13),some (some 76,true)⟩,⟨some 79,.call ⟨.value (.func 40),#[.tmp 77,.tmp 78],#[24,35]⟩,some (some 76,true)⟩,⟨some 80,.pick (.tmp 76) (.tmp 79) (.const (.bool false)),none⟩,⟨some 81,.move (.tmp 80),none⟩,⟨some 82,.load 24 (.tmp 11),some (some 81,true)⟩,⟨some 83,.load 24 (.tmp 9),some (some 81,true)⟩,⟨some 84,.move (.tmp 13),some (some 81,true)⟩,⟨some 85,.call ⟨.value (.func 37),#[.tmp 82,.tmp 83,.tmp 84],#[24,24,35]⟩,some (some 81,true)⟩,⟨some 86,.pick (.tmp 81) (.tmp 85) (.const (.bool false)),none⟩,⟨some 87,.move (.tmp 86),none⟩,⟨some 88,.load 24 (.tmp 9),some (some 87,true)⟩,⟨some 89,.load 24 (.tmp 11),some (some 87,true)⟩,⟨some 90,.move (.tmp 13),some (some 87,true)⟩,⟨some 91,.call ⟨.value (.func 37),#[.tmp 88,.tmp 89,.tmp 90],#[24,24,35]⟩,some (some 87,true)⟩,⟨some 92,.pick (.tmp 87) (.tmp 91) (.const (.bool false)),none⟩,⟨some 6,.assign (.tmp 92),none⟩]) (.ret))))))))))
@[simp] theorem x10_s {C : WC} {e : AE} {s : Store} {K : KS} : type_of% (@X_at C e s K _ _ x10.eq_1) := X_at x10.eq_1
def an10 : Ann := ⟨[(6, .tree (.op 0 (.op 1 (.op 2 (.br (.op 3 (.ck 0 (.br (.op 4 (.op 5 (.op 6 (.op 7 (.br (.op 8 (.op 9 (.op 10 (.op 11 .fin)))) (.op 9 (.op 8 (.op 10 (.op 11 .fin))))))))) (.br (.op 8 (.ck 0 (.br (.op 4 (.op 5 (.op 6 (.op 7 (.op 9 (.op 10 (.op 11 .fin))))))) (.op 9 (.ck 0 (.op 4 (.op 5 (.op 6 (.op 7 (.op 10 (.op 11 .fin))))))))))) (.op 9 (.ck 0 (.br (.op 4 (.op 5 (.op 6 (.op 7 (.op 8 (.op 10 (.op 11 .fin))))))) (.op 8 (.ck 0 (.op 4 (.op 5 (.op 6 (.op 7 (.op 10 (.op 11 .fin))))))))))))))) (.br (.op 8 (.ck 0 (.br (.op 3 (.ck 0 (.br (.op 4 (.op 5 (.op 6 (.op 7 (.op 9 (.op 10 (.op 11 .fin))))))) (.op 9 (.ck 0 (.op 4 (.op 5 (.op 6 (.op 7 (.op 10 (.op 11 .fin))))))))))) (.op 9 (.ck 0 (.op 3 (.ck 0 (.op 4 (.op 5 (.op 6 (.op 7 (.op 10 (.op 11 .fin))))))))))))) (.op 9 (.ck 0 (.br (.op 3 (.ck 0 (.br (.op 4 (.op 5 (.op 6 (.op 7 (.op 8 (.op 10 (.op 11 .fin))))))) (.op 8 (.ck 0 (.op 4 (.op 5 (.op 6 (.op 7 (.op 10 (.op 11 .fin))))))))))) (.op 8 (.ck 0 (.op 3 (.ck 0 (.op 4 (.op 5 (.op 6 (.op 7 (.op 10 (.op 11 .fin)))))))))))))))))))], [], []⟩
def cx10 (P : Program) (m : Nat) : WC := ⟨P, m, an10⟩
@[simp] theorem cx10_a {P : Program} {m : Nat} : (cx10 P m).P = P ∧ (cx10 P m).m = m ∧ (cx10 P m).A.clsOf 6 = .tree (.op 0 (.op 1 (.op 2 (.br (.op 3 (.ck 0 (.br (.op 4 (.op 5 (.op 6 (.op 7 (.br (.op 8 (.op 9 (.op 10 (.op 11 .fin)))) (.op 9 (.op 8 (.op 10 (.op 11 .fin))))))))) (.br (.op 8 (.ck 0 (.br (.op 4 (.op 5 (.op 6 (.op 7 (.op 9 (.op 10 (.op 11 .fin))))))) (.op 9 (.ck 0 (.op 4 (.op 5 (.op 6 (.op 7 (.op 10 (.op 11 .fin))))))))))) (.op 9 (.ck 0 (.br (.op 4 (.op 5 (.op 6 (.op 7 (.op 8 (.op 10 (.op 11 .fin))))))) (.op 8 (.ck 0 (.op 4 (.op 5 (.op 6 (.op 7 (.op 10 (.op 11 .fin))))))))))))))) (.br (.op 8 (.ck 0 (.br (.op 3 (.ck 0 (.br (.op 4 (.op 5 (.op 6 (.op 7 (.op 9 (.op 10 (.op 11 .fin))))))) (.op 9 (.ck 0 (.op 4 (.op 5 (.op 6 (.op 7 (.op 10 (.op 11 .fin))))))))))) (.op 9 (.ck 0 (.op 3 (.ck 0 (.op 4 (.op 5 (.op 6 (.op 7 (.op 10 (.op 11 .fin))))))))))))) (.op 9 (.ck 0 (.br (.op 3 (.ck 0 (.br (.op 4 (.op 5 (.op 6 (.op 7 (.op 8 (.op 10 (.op 11 .fin))))))) (.op 8 (.ck 0 (.op 4 (.op 5 (.op 6 (.op 7 (.op 10 (.op 11 .fin))))))))))) (.op 8 (.ck 0 (.op 3 (.ck 0 (.op 4 (.op 5 (.op 6 (.op 7 (.op 10 (.op 11 .fin)))))))))))))))))) ∧ (cx10 P m).A.frzOf 6 = [] := ⟨rfl, rfl, rfl, rfl⟩
instance {P : Program} {m f : Nat} [h : EnT P f] : EnT (cx10 P m).P f := h
theorem chk10 : ∀ c, Try.f10.body = some c → chkC Try.f10.ntmps an10 c = true := by intro c h; obtain rfl := Option.some.inj h; decide +kernel
theorem op10 {args : List PV} {v : PV} (h : X (cx10 Try.prog 0) x10 (argsA 0 args) [] (.fin [.tmp 6] fun v1 s1 => deref s1 6 v1 = v)) (hl : args.length ≤ Try.f10.ntmps := by rw [Try.ntmps10]; simp) : CallOK Try.prog 10 args [] v [] :=
  callX (m := 0) (cx10 Try.prog 0) x10 rfl rfl (by kernel_rfl) Try.func10 rfl rfl hl mixed (chk10 _ rfl) (by rw [Try.results10]; exact h)

theorem betweenTwice_law (f : Fm) (a b : List ByteArray) (ha : a.length * 16 ≤ 140737488351232) : CallOK Try.prog 10 [.agg (frm f), .list (a.map strRow), .list (b.map strRow)] [] (.bool true) [] := by
  have hbg := betweenBegun_law
  have vf := vast_ref f 0 (by omega) (by omega) []
  have hfl := betweenFault_law [f] (by simp)
  simp only [List.map_cons, List.map_nil] at hfl
  have hcm := common_law a b ha
  have hp1 := Project_between f a
  have hp2 := Project_between f (a.filter fun x => memB x b)
  refine op10 ?_
  generalize vastB f 0 = vb at *
  cases vb with
  | true => (((try simp (implicitDefEqProofs := false)); (try simp (implicitDefEqProofs := false) (disch := first | assumption | (try simp only [lens]); omega -splitDisjunctions))); all_goals try (repeat' ((first | ((with_reducible first | refine And.intro ?_ ?_ | refine Exists.intro ?_ ?_); first | omega | (simp <;> omega)) | (with_reducible refine spl (And.intro ?_ ?_) <;> intro _) | (refine CL.clo (hbg) ?_) | (refine CM.clo (hbg) ?_) | (refine CD.clo (hbg) ?_) | (refine CL.clo (vf) ?_) | (refine CM.clo (vf) ?_) | (refine CD.clo (vf) ?_)) <;> ((try simp (implicitDefEqProofs := false)); (try simp (implicitDefEqProofs := false) (disch := first | assumption | (try simp only [lens]); omega -splitDisjunctions))))))
  | false =>
    by_cases h1 : (lookV [f]).2.1 = 0
    · obtain ⟨hpL, h6, hz⟩ := lookV_six h1
      rw [hz] at hfl
      rw [plainL_one] at hpL
      have hpz := projectV_zero (ns := a) h1
      have hpz2 := projectV_zero (ns := a.filter fun x => memB x b) h1
      have hpo : nameBad a 0 = none → a.length ≤ 1000 → projectV f (a.filter fun x => memB x b) = (projF f (a.filter fun x => memB x b), (0, 0)) := by
        intro hb hl
        have := List.length_filter_le (fun x => memB x b) a
        unfold projectV
        rw [if_neg (by simpa using h1), if_neg (by omega), nameBad_none fun x hx => nameBad_all hb x (List.mem_filter.1 hx).1]
      have hff := FormulaFault_ref (projF f a)
      have htw := twice a b hpL h6
      have hpp := proj_plain a hpL h6
      have g2 := proj_good (a.filter fun x => memB x b) hpL h6
      have g3 := fun hc => proj_good b (hpp hc).1 (hpp hc).2.2
      have hp3 := Project_between (projF f a) b
      have nl := NamesIn_names [f] (by simp) (fun g hg => by simp at hg; rw [hg]; exact ((plainF_iff f).1 hpL).2)
      have hin1 : ∀ x ∈ inN f (a.filter fun x => memB x b), x ∈ namesS [f] := fun x hx => inN_sub hx
      have hin2 : (formulaCheck (projF f a)).1 = 0 → ∀ x ∈ inN (projF f a) b, x ∈ namesS [f] := fun hc x hx => inN_sub ((hpp hc).2.1 x (inN_sub hx))
      have hlk := fun hc => look_zero (hpp hc).1 (hpp hc).2.2
      simp only [List.map_cons, List.map_nil] at nl
      clear h1 hz hpp
      generalize namesS [f] = N at *
      generalize (a.filter fun x => memB x b) = C at *
      by_cases e1 : (projectV f a).2.1 = 0
      · obtain ⟨ha1, ha2, ha3⟩ := hpz e1
        rw [ha3] at hp1
        rw [hpo ha2 ha1] at hp2
        by_cases hc : (formulaCheck (projF f a)).1 = 0
        · have htw := htw hc
          have g3 := g3 hc
          have hin2 := hin2 hc
          have hlk := hlk hc
          have a1 := plainAnswer_law _ N (g3.mono hin2 (by decide))
          have a2 := plainAnswer_law _ N (g2.mono hin1 (by decide))
          have m1 := makes_law _ _ g3.1 g2.1 N (by omega)
          have m2 := makes_law _ _ g2.1 g3.1 N (by omega)
          rw [makes_all htw] at m1
          rw [makes_all fun v => (htw v).symm] at m2
          have hV : projectV (projF f a) b = if 1000 < b.length then (.mk 0 ⟨#[]⟩ [], (2, 0)) else match nameBad b 0 with
            | some w => (.mk 0 ⟨#[]⟩ [], w)
            | none => (projF (projF f a) b, (0, 0)) := by unfold projectV; rw [if_neg (by simpa using hlk)]; rfl
          clear g3 g2 htw hin1 hin2 hlk hpz hpz2 hpo e1 ha3
          generalize projectV (projF f a) b = V at *
          generalize projF (projF f a) b = Y at *
          generalize projF f C = Zf at *
          generalize projF f a = X at *
          rw [show formulaCheck X = (0, 0) from fc_zero hc] at hff
          clear hc
          (((try simp (implicitDefEqProofs := false)); (try simp (implicitDefEqProofs := false) (disch := first | assumption | (try simp only [lens]); omega -splitDisjunctions))); all_goals try (repeat' ((first | ((with_reducible first | refine And.intro ?_ ?_ | refine Exists.intro ?_ ?_); first | omega | (simp <;> omega)) | (with_reducible refine spl (And.intro ?_ ?_) <;> intro _) | (refine CL.clo (hbg) ?_) | (refine CM.clo (hbg) ?_) | (refine CD.clo (hbg) ?_) | (refine CL.clo (vf) ?_) | (refine CM.clo (vf) ?_) | (refine CD.clo (vf) ?_)) <;> ((try simp (implicitDefEqProofs := false)); (try simp (implicitDefEqProofs := false) (disch := first | assumption | (try simp only [lens]); omega -splitDisjunctions))))))
          refine CL.giv [1] ?_
          (((try simp (implicitDefEqProofs := false)); (try simp (implicitDefEqProofs := false) (disch := first | assumption | (try simp only [lens]); omega -splitDisjunctions))); all_goals try (repeat' ((first | ((with_reducible first | refine And.intro ?_ ?_ | refine Exists.intro ?_ ?_); first | omega | (simp <;> omega)) | (with_reducible refine spl (And.intro ?_ ?_) <;> intro _) | (refine CL.clo (hfl) ?_) | (refine CM.clo (hfl) ?_) | (refine CD.clo (hfl) ?_) | (refine CL.clo (hp1) ?_) | (refine CM.clo (hp1) ?_) | (refine CD.clo (hp1) ?_)) <;> ((try simp (implicitDefEqProofs := false)); (try simp (implicitDefEqProofs := false) (disch := first | assumption | (try simp only [lens]); omega -splitDisjunctions))))))
          refine joinK (K := ?K) ?_ ?_
          rotate_left 1
          · intro key
            repeat' (first | (refine And.intro ?_ ?_) | (refine CT.clo hcm ?_; (((try simp (implicitDefEqProofs := false)); (try simp (implicitDefEqProofs := false) (disch := first | assumption | (try simp only [lens]); omega -splitDisjunctions))); all_goals try (repeat' ((first | ((with_reducible first | refine And.intro ?_ ?_ | refine Exists.intro ?_ ?_); first | omega | (simp <;> omega)) | (with_reducible refine spl (And.intro ?_ ?_) <;> intro _)) <;> ((try simp (implicitDefEqProofs := false)); (try simp (implicitDefEqProofs := false) (disch := first | assumption | (try simp only [lens]); omega -splitDisjunctions))))))) | (refine CT.clo hp2 ?_; (((try simp (implicitDefEqProofs := false)); (try simp (implicitDefEqProofs := false) (disch := first | assumption | (try simp only [lens]); omega -splitDisjunctions))); all_goals try (repeat' ((first | ((with_reducible first | refine And.intro ?_ ?_ | refine Exists.intro ?_ ?_); first | omega | (simp <;> omega)) | (with_reducible refine spl (And.intro ?_ ?_) <;> intro _)) <;> ((try simp (implicitDefEqProofs := false)); (try simp (implicitDefEqProofs := false) (disch := first | assumption | (try simp only [lens]); omega -splitDisjunctions))))))))
            all_goals refine CL.gc [] [] [2, 3, 7, 8, 9, 10, 42, 43] ?_
            all_goals ((((try simp (implicitDefEqProofs := false)); (try simp (implicitDefEqProofs := false) (disch := first | assumption | (try simp only [lens]); omega -splitDisjunctions))); all_goals try (repeat' ((first | ((with_reducible first | refine And.intro ?_ ?_ | refine Exists.intro ?_ ?_); first | omega | (simp <;> omega)) | (with_reducible refine spl (And.intro ?_ ?_) <;> intro _)) <;> ((try simp (implicitDefEqProofs := false)); (try simp (implicitDefEqProofs := false) (disch := first | assumption | (try simp only [lens]); omega -splitDisjunctions)))))))
            all_goals exact key.h
          by_cases hl : 1000 < b.length
          · rw [if_pos hl] at hV
            subst hV
            have hli : (1000 : Int) < (b.length : Int) := by omega
            (((try simp (implicitDefEqProofs := false) [hli]); (try simp (implicitDefEqProofs := false) (disch := first | assumption | (try simp only [lens]); omega -splitDisjunctions) [hli])); all_goals try (repeat' ((first | ((with_reducible first | refine And.intro ?_ ?_ | refine Exists.intro ?_ ?_); first | omega | (simp <;> omega)) | (with_reducible refine spl (And.intro ?_ ?_) <;> intro _) | (refine CL.clo (hff) ?_) | (refine CM.clo (hff) ?_) | (refine CD.clo (hff) ?_) | (refine CL.clo (hp3) ?_) | (refine CM.clo (hp3) ?_) | (refine CD.clo (hp3) ?_)) <;> ((try simp (implicitDefEqProofs := false) [hli]); (try simp (implicitDefEqProofs := false) (disch := first | assumption | (try simp only [lens]); omega -splitDisjunctions) [hli])))))
          · rw [if_neg hl] at hV
            cases hb : nameBad b 0 with
            | some w =>
              rw [hb] at hV
              dsimp only at hV
              subst hV
              have hw := nameBad_code _ _ _ hb
              (((try simp (implicitDefEqProofs := false) [hw]); (try simp (implicitDefEqProofs := false) (disch := first | assumption | (try simp only [lens]); omega -splitDisjunctions) [hw])); all_goals try (repeat' ((first | ((with_reducible first | refine And.intro ?_ ?_ | refine Exists.intro ?_ ?_); first | omega | (simp <;> omega)) | (with_reducible refine spl (And.intro ?_ ?_) <;> intro _) | (refine CL.clo (hff) ?_) | (refine CM.clo (hff) ?_) | (refine CD.clo (hff) ?_) | (refine CL.clo (hp3) ?_) | (refine CM.clo (hp3) ?_) | (refine CD.clo (hp3) ?_)) <;> ((try simp (implicitDefEqProofs := false) [hw]); (try simp (implicitDefEqProofs := false) (disch := first | assumption | (try simp only [lens]); omega -splitDisjunctions) [hw])))))
            | none =>
              rw [hb] at hV
              dsimp only at hV
              subst hV
              (((try simp (implicitDefEqProofs := false)); (try simp (implicitDefEqProofs := false) (disch := first | assumption | (try simp only [lens]); omega -splitDisjunctions))); all_goals try (repeat' ((first | ((with_reducible first | refine And.intro ?_ ?_ | refine Exists.intro ?_ ?_); first | omega | (simp <;> omega)) | (with_reducible refine spl (And.intro ?_ ?_) <;> intro _) | (refine CL.clo (hff) ?_) | (refine CM.clo (hff) ?_) | (refine CD.clo (hff) ?_) | (refine CL.clo (hp3) ?_) | (refine CM.clo (hp3) ?_) | (refine CD.clo (hp3) ?_)) <;> ((try simp (implicitDefEqProofs := false)); (try simp (implicitDefEqProofs := false) (disch := first | assumption | (try simp only [lens]); omega -splitDisjunctions))))))
              refine CL.giv [7] ?_
              (((try simp (implicitDefEqProofs := false)); (try simp (implicitDefEqProofs := false) (disch := first | assumption | (try simp only [lens]); omega -splitDisjunctions))); all_goals try (repeat' ((first | ((with_reducible first | refine And.intro ?_ ?_ | refine Exists.intro ?_ ?_); first | omega | (simp <;> omega)) | (with_reducible refine spl (And.intro ?_ ?_) <;> intro _) | (refine CL.clo (nl) ?_) | (refine CM.clo (nl) ?_) | (refine CD.clo (nl) ?_) | (refine CL.clo (a1) ?_) | (refine CM.clo (a1) ?_) | (refine CD.clo (a1) ?_) | (refine CL.clo (a2) ?_) | (refine CM.clo (a2) ?_) | (refine CD.clo (a2) ?_) | (refine CL.clo (m1) ?_) | (refine CM.clo (m1) ?_) | (refine CD.clo (m1) ?_) | (refine CL.clo (m2) ?_) | (refine CM.clo (m2) ?_) | (refine CD.clo (m2) ?_)) <;> ((try simp (implicitDefEqProofs := false)); (try simp (implicitDefEqProofs := false) (disch := first | assumption | (try simp only [lens]); omega -splitDisjunctions))))))
              all_goals trace_state
        · generalize projF f C = Zf at *
          generalize projF f a = X at *
          (((try simp (implicitDefEqProofs := false)); (try simp (implicitDefEqProofs := false) (disch := first | assumption | (try simp only [lens]); omega -splitDisjunctions))); all_goals try (repeat' ((first | ((with_reducible first | refine And.intro ?_ ?_ | refine Exists.intro ?_ ?_); first | omega | (simp <;> omega)) | (with_reducible refine spl (And.intro ?_ ?_) <;> intro _) | (refine CL.clo (hbg) ?_) | (refine CM.clo (hbg) ?_) | (refine CD.clo (hbg) ?_) | (refine CL.clo (vf) ?_) | (refine CM.clo (vf) ?_) | (refine CD.clo (vf) ?_)) <;> ((try simp (implicitDefEqProofs := false)); (try simp (implicitDefEqProofs := false) (disch := first | assumption | (try simp only [lens]); omega -splitDisjunctions))))))
          refine CL.giv [1] ?_
          (((try simp (implicitDefEqProofs := false)); (try simp (implicitDefEqProofs := false) (disch := first | assumption | (try simp only [lens]); omega -splitDisjunctions))); all_goals try (repeat' ((first | ((with_reducible first | refine And.intro ?_ ?_ | refine Exists.intro ?_ ?_); first | omega | (simp <;> omega)) | (with_reducible refine spl (And.intro ?_ ?_) <;> intro _) | (refine CL.clo (hfl) ?_) | (refine CM.clo (hfl) ?_) | (refine CD.clo (hfl) ?_) | (refine CL.clo (hp1) ?_) | (refine CM.clo (hp1) ?_) | (refine CD.clo (hp1) ?_)) <;> ((try simp (implicitDefEqProofs := false)); (try simp (implicitDefEqProofs := false) (disch := first | assumption | (try simp only [lens]); omega -splitDisjunctions))))))
          repeat' (first | (refine And.intro ?_ ?_) | (refine CT.clo hcm ?_; (((try simp (implicitDefEqProofs := false)); (try simp (implicitDefEqProofs := false) (disch := first | assumption | (try simp only [lens]); omega -splitDisjunctions))); all_goals try (repeat' ((first | ((with_reducible first | refine And.intro ?_ ?_ | refine Exists.intro ?_ ?_); first | omega | (simp <;> omega)) | (with_reducible refine spl (And.intro ?_ ?_) <;> intro _)) <;> ((try simp (implicitDefEqProofs := false)); (try simp (implicitDefEqProofs := false) (disch := first | assumption | (try simp only [lens]); omega -splitDisjunctions))))))) | (refine CT.clo hp2 ?_; (((try simp (implicitDefEqProofs := false)); (try simp (implicitDefEqProofs := false) (disch := first | assumption | (try simp only [lens]); omega -splitDisjunctions))); all_goals try (repeat' ((first | ((with_reducible first | refine And.intro ?_ ?_ | refine Exists.intro ?_ ?_); first | omega | (simp <;> omega)) | (with_reducible refine spl (And.intro ?_ ?_) <;> intro _)) <;> ((try simp (implicitDefEqProofs := false)); (try simp (implicitDefEqProofs := false) (disch := first | assumption | (try simp only [lens]); omega -splitDisjunctions))))))))
          all_goals ((((try simp (implicitDefEqProofs := false) [hc]); (try simp (implicitDefEqProofs := false) (disch := first | assumption | (try simp only [lens]); omega -splitDisjunctions) [hc])); all_goals try (repeat' ((first | ((with_reducible first | refine And.intro ?_ ?_ | refine Exists.intro ?_ ?_); first | omega | (simp <;> omega)) | (with_reducible refine spl (And.intro ?_ ?_) <;> intro _) | (refine CL.clo (hff) ?_) | (refine CM.clo (hff) ?_) | (refine CD.clo (hff) ?_)) <;> ((try simp (implicitDefEqProofs := false) [hc]); (try simp (implicitDefEqProofs := false) (disch := first | assumption | (try simp only [lens]); omega -splitDisjunctions) [hc]))))))
      · generalize projectV f C = V2 at *
        generalize projectV f a = V at *
        (((try simp (implicitDefEqProofs := false)); (try simp (implicitDefEqProofs := false) (disch := first | assumption | (try simp only [lens]); omega -splitDisjunctions))); all_goals try (repeat' ((first | ((with_reducible first | refine And.intro ?_ ?_ | refine Exists.intro ?_ ?_); first | omega | (simp <;> omega)) | (with_reducible refine spl (And.intro ?_ ?_) <;> intro _) | (refine CL.clo (hbg) ?_) | (refine CM.clo (hbg) ?_) | (refine CD.clo (hbg) ?_) | (refine CL.clo (vf) ?_) | (refine CM.clo (vf) ?_) | (refine CD.clo (vf) ?_)) <;> ((try simp (implicitDefEqProofs := false)); (try simp (implicitDefEqProofs := false) (disch := first | assumption | (try simp only [lens]); omega -splitDisjunctions))))))
        refine CL.giv [1] ?_
        (((try simp (implicitDefEqProofs := false)); (try simp (implicitDefEqProofs := false) (disch := first | assumption | (try simp only [lens]); omega -splitDisjunctions))); all_goals try (repeat' ((first | ((with_reducible first | refine And.intro ?_ ?_ | refine Exists.intro ?_ ?_); first | omega | (simp <;> omega)) | (with_reducible refine spl (And.intro ?_ ?_) <;> intro _) | (refine CL.clo (hfl) ?_) | (refine CM.clo (hfl) ?_) | (refine CD.clo (hfl) ?_) | (refine CL.clo (hp1) ?_) | (refine CM.clo (hp1) ?_) | (refine CD.clo (hp1) ?_)) <;> ((try simp (implicitDefEqProofs := false)); (try simp (implicitDefEqProofs := false) (disch := first | assumption | (try simp only [lens]); omega -splitDisjunctions))))))
        repeat' (first | (refine And.intro ?_ ?_) | (refine CT.clo hcm ?_; (((try simp (implicitDefEqProofs := false) [e1]); (try simp (implicitDefEqProofs := false) (disch := first | assumption | (try simp only [lens]); omega -splitDisjunctions) [e1])); all_goals try (repeat' ((first | ((with_reducible first | refine And.intro ?_ ?_ | refine Exists.intro ?_ ?_); first | omega | (simp <;> omega)) | (with_reducible refine spl (And.intro ?_ ?_) <;> intro _)) <;> ((try simp (implicitDefEqProofs := false) [e1]); (try simp (implicitDefEqProofs := false) (disch := first | assumption | (try simp only [lens]); omega -splitDisjunctions) [e1])))))) | (refine CT.clo hp2 ?_; (((try simp (implicitDefEqProofs := false) [e1]); (try simp (implicitDefEqProofs := false) (disch := first | assumption | (try simp only [lens]); omega -splitDisjunctions) [e1])); all_goals try (repeat' ((first | ((with_reducible first | refine And.intro ?_ ?_ | refine Exists.intro ?_ ?_); first | omega | (simp <;> omega)) | (with_reducible refine spl (And.intro ?_ ?_) <;> intro _)) <;> ((try simp (implicitDefEqProofs := false) [e1]); (try simp (implicitDefEqProofs := false) (disch := first | assumption | (try simp only [lens]); omega -splitDisjunctions) [e1])))))))
    · generalize lookV [f] = w at *
      (((try simp (implicitDefEqProofs := false)); (try simp (implicitDefEqProofs := false) (disch := first | assumption | (try simp only [lens]); omega -splitDisjunctions))); all_goals try (repeat' ((first | ((with_reducible first | refine And.intro ?_ ?_ | refine Exists.intro ?_ ?_); first | omega | (simp <;> omega)) | (with_reducible refine spl (And.intro ?_ ?_) <;> intro _) | (refine CL.clo (hbg) ?_) | (refine CM.clo (hbg) ?_) | (refine CD.clo (hbg) ?_) | (refine CL.clo (vf) ?_) | (refine CM.clo (vf) ?_) | (refine CD.clo (vf) ?_)) <;> ((try simp (implicitDefEqProofs := false)); (try simp (implicitDefEqProofs := false) (disch := first | assumption | (try simp only [lens]); omega -splitDisjunctions))))))
      refine CL.giv [1] ?_
      (((try simp (implicitDefEqProofs := false) [h1]); (try simp (implicitDefEqProofs := false) (disch := first | assumption | (try simp only [lens]); omega -splitDisjunctions) [h1])); all_goals try (repeat' ((first | ((with_reducible first | refine And.intro ?_ ?_ | refine Exists.intro ?_ ?_); first | omega | (simp <;> omega)) | (with_reducible refine spl (And.intro ?_ ?_) <;> intro _) | (refine CL.clo (hfl) ?_) | (refine CM.clo (hfl) ?_) | (refine CD.clo (hfl) ?_)) <;> ((try simp (implicitDefEqProofs := false) [h1]); (try simp (implicitDefEqProofs := false) (disch := first | assumption | (try simp only [lens]); omega -splitDisjunctions) [h1])))))
end Go.Proofs.Ytnoklmapofogeaa
