/-
  Plain formulas, and where they are true; truth: value; sequentref: True.
-/
import Derived.Test.YtnoklmapofogeaaZTrA
namespace Go.Proofs.Ytnoklmapofogeaa
open Go Go.Pv
set_option linter.unusedVariables false
set_option linter.unusedSimpArgs false
set_option maxRecDepth 100000
set_option maxHeartbeats 4000000

/-- fine, without boxes and diamonds -/
def Pl (f : Fm) : Prop := Td f ∧ ∀ x ∈ pre f, x.kind ≤ 7
theorem Pl.kid {f g : Fm} (h : Pl f) (hg : g ∈ f.kids) : Pl g := ⟨h.1.kid hg, fun x hx => h.2 x (by rw [pre_eq]; exact List.mem_cons_of_mem _ (pres_mem hx _ hg))⟩
theorem Pl.seven {f : Fm} (h : Pl f) : (∃ nm, isNameB nm = true ∧ f = .mk 1 nm []) ∨ (f = .mk 2 ⟨#[]⟩ []) ∨ (f = .mk 3 ⟨#[]⟩ []) ∨ (∃ a, Pl a ∧ f = .mk 4 ⟨#[]⟩ [a]) ∨ (∃ a b, Pl a ∧ Pl b ∧ f = .mk 5 ⟨#[]⟩ [a, b]) ∨
    (∃ a b, Pl a ∧ Pl b ∧ f = .mk 6 ⟨#[]⟩ [a, b]) ∨ (∃ a b, Pl a ∧ Pl b ∧ f = .mk 7 ⟨#[]⟩ [a, b]) := by
  have hk := h.2 f (by rw [pre_eq]; exact List.mem_cons_self)
  have hp := fun g hg => h.kid (g := g) hg
  rcases h.1.nine with ⟨nm, hN, rfl⟩ | rfl | rfl | ⟨a, ha, rfl⟩ | ⟨a, b, ha, hb, rfl⟩ | ⟨a, b, ha, hb, rfl⟩ | ⟨a, b, ha, hb, rfl⟩ | ⟨a, ha, rfl⟩ | ⟨a, ha, rfl⟩
  · exact .inl ⟨nm, hN, rfl⟩
  · exact .inr (.inl rfl)
  · exact .inr (.inr (.inl rfl))
  · exact .inr (.inr (.inr (.inl ⟨a, hp a (by simp), rfl⟩)))
  · exact .inr (.inr (.inr (.inr (.inl ⟨a, b, hp a (by simp), hp b (by simp), rfl⟩))))
  · exact .inr (.inr (.inr (.inr (.inr (.inl ⟨a, b, hp a (by simp), hp b (by simp), rfl⟩)))))
  · exact .inr (.inr (.inr (.inr (.inr (.inr ⟨a, b, hp a (by simp), hp b (by simp), rfl⟩)))))
  · simp at hk
  · simp at hk
theorem kindBad_none : ∀ (l : List Fm) (i : Nat), kindBad l i = none ↔ ∀ x ∈ l, x.kind ≤ 7
  | [], i => by simp [kindBad]
  | x :: r, i => by
    rw [kindBad]
    by_cases h : 7 < x.kind
    · rw [if_pos h]; simp; intro h2; omega
    · rw [if_neg h, kindBad_none r (i + 1)]; simp; intro _; omega
theorem kindBad_code : ∀ (l : List Fm) (i : Nat) x, kindBad l i = some x → x.1 = 4
  | [], _, x, h => by cases h
  | a :: r, i, x, h => by
    unfold kindBad at h
    split at h
    · cases h; rfl
    · exact kindBad_code r _ x h
theorem namesF_preA {f : Fm} (h : (pre f).length ≤ 200) : nodesGo 200 200 [f] = pre f := by
  rw [nodesGo_take 200 200 [f] (by omega), pres_cons, pres_nil, List.append_nil, List.take_of_length_le h]
theorem plainF_iff (f : Fm) : (plainF f).1 = 0 ↔ Pl f ∧ (pre f).length ≤ 200 := by
  unfold plainF
  by_cases h : (formulaCheck f).1 = 0
  · rw [if_neg (by simpa using h)]
    have h0 := (formulaCheck_iff f).1 h
    rw [namesF_preA h0.2]
    cases hk : kindBad (pre f) 0 with
    | none => simp only [Option.getD_none, true_iff]; exact ⟨⟨h0.1, (kindBad_none _ _).1 hk⟩, h0.2⟩
    | some x =>
      have := kindBad_code _ _ _ hk
      simp only [Option.getD_some]
      refine ⟨fun g => by omega, fun g => ?_⟩
      rw [(kindBad_none _ _).2 g.1.2] at hk; cases hk
  · rw [if_pos (by simpa using h)]
    exact ⟨fun g => absurd g h, fun g => (formulaCheck_iff f).2 ⟨g.1.1, g.2⟩⟩
theorem plainF_zero {f : Fm} (h : (plainF f).1 = 0) : plainF f = (0, 0) := by
  have h1 := (plainF_iff f).1 h
  have h2 := (formulaCheck_iff f).2 ⟨h1.1.1, h1.2⟩
  unfold plainF
  rw [if_neg (by simpa using h2), namesF_preA h1.2, (kindBad_none _ _).2 h1.1.2]; rfl
theorem plainL_one (f : Fm) : plainL [f] = plainF f := by
  rw [plainL, plainL]
  split
  · rfl
  · rename_i h; rw [plainF_zero (by simpa using h)]
/-- is a formula without boxes true, where h tells of names? -/
def tv (h : ByteArray → Bool) (f : Fm) : Bool := ev 0 (fun _ _ => false) (fun _ => h) f 0
section
variable {h : ByteArray → Bool} {nm : ByteArray} {l : List Fm} {a b : Fm}
theorem tv_1 : tv h (.mk 1 nm l) = h nm := ev_1
theorem tv_2 : tv h (.mk 2 nm l) = true := ev_2
theorem tv_3 : tv h (.mk 3 nm l) = false := ev_3
theorem tv_4 : tv h (.mk 4 nm [a]) = !tv h a := ev_4
theorem tv_5 : tv h (.mk 5 nm [a, b]) = (tv h a && tv h b) := ev_5
theorem tv_6 : tv h (.mk 6 nm [a, b]) = (tv h a || tv h b) := ev_6
theorem tv_7 : tv h (.mk 7 nm [a, b]) = (!tv h a || tv h b) := ev_7
end
/-! maps of truth values -/
def x44_T1 : XC := .seq (.seq (.reg [⟨some 24,.fieldAddr 24 (.tmp 2) 0,none⟩,⟨some 25,.load 3 (.tmp 24),none⟩]) (.block 2 (.seq (.reg [⟨some 27,.binOp .eql 3 (.tmp 25) (.const (.int .i64 1)) 3,none⟩,⟨some 26,.assign (.tmp 27),none⟩]) (.cond (.tmp 26) (.seq (.reg [⟨some 28,.move (.tmp 1),none⟩,⟨some 29,.fieldAddr 24 (.tmp 2) 1,none⟩,⟨some 30,.load 9 (.tmp 29),none⟩,⟨some 31,.call ⟨.value (.func 59),#[.tmp 28,.tmp 30],#[35,9]⟩,none⟩,⟨some 4,.assign (.tmp 31),none⟩]) (.ret)) (.seq (.reg [⟨some 33,.binOp .eql 3 (.tmp 25) (.const (.int .i64 4)) 3,none⟩,⟨some 32,.assign (.tmp 33),none⟩]) (.cond (.tmp 32) (.seq (.reg [⟨some 34,.move (.tmp 5),none⟩,⟨some 35,.indexAddr 101 (.tmp 34) (.const (.int .i64 0)),none⟩,⟨some 36,.load 4 (.tmp 35),none⟩,⟨some 37,.unOp .not 4 (.tmp 36),none⟩,⟨some 4,.assign (.tmp 37),none⟩]) (.ret)) (.seq (.reg [⟨some 39,.binOp .eql 3 (.tmp 25) (.const (.int .i64 5)) 3,none⟩,⟨some 38,.assign (.tmp 39),none⟩]) (.cond (.tmp 38) (.seq (.reg [⟨some 40,.move (.tmp 5),none⟩,⟨some 41,.indexAddr 101 (.tmp 40) (.const (.int .i64 0)),none⟩,⟨some 42,.load 4 (.tmp 41),none⟩,⟨some 43,.move (.tmp 42),none⟩,⟨some 44,.move (.tmp 5),some (some 43,true)⟩,⟨some 45,.indexAddr 101 (.tmp 44) (.const (.int .i64 1)),some (some 43,true)⟩,⟨some 46,.load 4 (.tmp 45),some (some 43,true)⟩,⟨some 47,.pick (.tmp 43) (.tmp 46) (.const (.bool false)),none⟩,⟨some 4,.assign (.tmp 47),none⟩]) (.ret)) (.seq (.reg [⟨some 49,.binOp .eql 3 (.tmp 25) (.const (.int .i64 6)) 3,none⟩,⟨some 48,.assign (.tmp 49),none⟩]) (.cond (.tmp 48) (.seq (.reg [⟨some 50,.move (.tmp 5),none⟩,⟨some 51,.indexAddr 101 (.tmp 50) (.const (.int .i64 0)),none⟩,⟨some 52,.load 4 (.tmp 51),none⟩,⟨some 53,.move (.tmp 52),none⟩,⟨some 54,.move (.tmp 5),some (some 53,false)⟩,⟨some 55,.indexAddr 101 (.tmp 54) (.const (.int .i64 1)),some (some 53,false)⟩,⟨some 56,.load 4 (.tmp 55),some (some 53,false)⟩,⟨some 57,.pick (.tmp 53) (.const (.bool true)) (.tmp 56),none⟩,⟨some 4,.assign (.tmp 57),none⟩]) (.ret)) (.seq (.reg [⟨some 59,.binOp .eql 3 (.tmp 25) (.const (.int .i64 7)) 3,none⟩,⟨some 58,.assign (.tmp 59),none⟩]) (.cond (.tmp 58) (.seq (.reg [⟨some 60,.move (.tmp 5),none⟩,⟨some 61,.indexAddr 101 (.tmp 60) (.const (.int .i64 1)),none⟩,⟨some 62,.load 4 (.tmp 61),none⟩,⟨some 63,.move (.tmp 62),none⟩,⟨some 64,.move (.tmp 5),some (some 63,false)⟩,⟨some 65,.indexAddr 101 (.tmp 64) (.const (.int .i64 0)),some (some 63,false)⟩,⟨some 66,.load 4 (.tmp 65),some (some 63,false)⟩,⟨some 67,.unOp .not 4 (.tmp 66),some (some 63,false)⟩,⟨some 68,.pick (.tmp 63) (.const (.bool true)) (.tmp 67),none⟩,⟨some 4,.assign (.tmp 68),none⟩]) (.ret)) (.skip))))))))))))) (.seq (.reg [⟨some 69,.fieldAddr 24 (.tmp 2) 0,none⟩,⟨some 70,.load 3 (.tmp 69),none⟩,⟨some 71,.binOp .eql 3 (.tmp 70) (.const (.int .i64 2)) 3,none⟩,⟨some 4,.assign (.tmp 71),none⟩]) (.ret))
def x44_L0 : XC := .seq (.seq (.reg [⟨some 7,.move (.tmp 6),none⟩,⟨some 8,.fieldAddr 24 (.tmp 2) 2,none⟩,⟨some 9,.load 22 (.tmp 8),none⟩,⟨some 10,.call ⟨.builtin .len,#[.tmp 9],#[22]⟩,none⟩,⟨some 11,.binOp .lss 3 (.tmp 7) (.tmp 10) 3,none⟩]) (.cond (.tmp 11) (.skip) (.exit 0))) (.seq (.block 1 (.reg [⟨some 14,.move (.tmp 5),none⟩,⟨some 15,.fieldAddr 24 (.tmp 2) 2,none⟩,⟨some 16,.load 22 (.tmp 15),none⟩,⟨some 17,.move (.tmp 6),none⟩,⟨some 18,.indexAddr 22 (.tmp 16) (.tmp 17),none⟩,⟨some 19,.load 24 (.tmp 18),none⟩,⟨some 20,.move (.tmp 1),none⟩,⟨some 21,.call ⟨.value (.func 44),#[.tmp 19,.tmp 20],#[24,35]⟩,none⟩,⟨some 22,.buildSlice 101 1 #[(0,.tmp 21)],none⟩,⟨some 23,.call ⟨.builtin .append,#[.tmp 14,.tmp 22],#[101,101]⟩,none⟩,⟨some 5,.assign (.tmp 23),none⟩])) (.reg [⟨some 12,.move (.tmp 6),none⟩,⟨some 13,.binOp .add 3 (.tmp 12) (.const (.int .i64 1)) 3,none⟩,⟨some 6,.assign (.tmp 13),none⟩]))
def x44 : XC := .seq (.reg [⟨some 2,.box 24 (.tmp 0),none⟩,⟨some 4,.assign (.const (.bool false)),none⟩]) (.seq (.reg [⟨some 5,.assign (.const (.slice none 0 0)),none⟩]) (.seq (.seq (.reg [⟨some 6,.assign (.const (.int .i64 0)),none⟩]) (.bloop 0 x44_L0)) (x44_T1)))
@[simp] theorem x44_s {C : WC} {e : AE} {s : Store} {K : KS} : type_of% (@X_at C e s K _ _ x44_T1.eq_1) ∧ type_of% (@X_at C e s K _ _ x44_L0.eq_1) ∧ type_of% (@X_at C e s K _ _ x44.eq_1) := ⟨X_at x44_T1.eq_1, X_at x44_L0.eq_1, X_at x44.eq_1⟩
def an44 : Ann := ⟨[], [(0, [(5, none, 1)], [1, 2, 5, 6], [1, 2, 5])], []⟩
def cx44 (P : Program) (m : Nat) : WC := ⟨P, m, an44⟩
@[simp] theorem cx44_a {P : Program} {m : Nat} : (cx44 P m).P = P ∧ (cx44 P m).m = m ∧ (cx44 P m).A.loopOf 0 = ([(5, none, 1)], [1, 2, 5, 6], [1, 2, 5]) := ⟨rfl, rfl, rfl⟩
instance {P : Program} {m f : Nat} [h : EnT P f] : EnT (cx44 P m).P f := h
theorem chk44 : ∀ c, Try.f44.body = some c → chkC Try.f44.ntmps an44 c = true := by intro c h; obtain rfl := Option.some.inj h; decide +kernel
theorem op44 {args : List PV} {v : PV} (h : X (cx44 Try.prog 0) x44 (argsA 0 args) [] (.fin [.tmp 4] fun v1 s1 => deref s1 6 v1 = v)) (hl : args.length ≤ Try.f44.ntmps := by rw [Try.ntmps44]; simp) : CallOK Try.prog 44 args [] v [] :=
  callX (m := 0) (cx44 Try.prog 0) x44 rfl rfl (by kernel_rfl) Try.func44 rfl rfl hl mixed (chk44 _ rfl) (by rw [Try.results44]; exact h)

theorem True_ref (hs : List ByteArray) (f : Fm) (hf : Pl f) : CallOK Try.prog 44 [.agg (frm f), .list (hs.map strRow)] [] (.bool (tv (fun x => memB x hs) f)) [] := by
  induction f using Fm.ind with
  | h f ih =>
    refine op44 ?_
    have ih := fun g hg => ih g hg (hf.kid hg)
    (((try simp (implicitDefEqProofs := false)); (try simp (implicitDefEqProofs := false) (disch := first | assumption | (try simp only [lens]); omega -splitDisjunctions))); all_goals try (repeat' ((first | ((with_reducible first | refine And.intro ?_ ?_ | refine Exists.intro ?_ ?_); first | omega | (simp <;> omega)) | (with_reducible refine spl (And.intro ?_ ?_) <;> intro _)) <;> ((try simp (implicitDefEqProofs := false)); (try simp (implicitDefEqProofs := false) (disch := first | assumption | (try simp only [lens]); omega -splitDisjunctions))))))
    refine W_of fun Q hQ => ?_
    have hkl := hf.1.ok.kids_le
    have main : ∀ r i, i + r = f.kids.length → Q [(1, .list (hs.map strRow)), (2, .ptr 0 0 0), (5, .sl 1 0 i), (6, .int .i64 (i : Int))] [.rows 3 [frm f], .rows 1 (((f.kids.take i).map (tv fun x => memB x hs)).map boolRow)] := by
      intro r
      induction r with
      | zero =>
        intro i hi
        obtain rfl : i = f.kids.length := by omega
        rw [List.take_length]
        apply hQ
        clear hQ
        rcases hf.seven with ⟨nm, hn, rfl⟩ | rfl | rfl | ⟨a, ha, rfl⟩ | ⟨a, b, ha, hb, rfl⟩ | ⟨a, b, ha, hb, rfl⟩ | ⟨a, b, ha, hb, rfl⟩
        · rw [tv_1]
          have hx := HasText_ref hs nm
          generalize memB nm hs = x at *
          simp only [frm_eq, fm_kind, fm_name, fm_kids, List.map_nil, List.map_cons]
          (((try simp (implicitDefEqProofs := false)); (try simp (implicitDefEqProofs := false) (disch := first | assumption | (try simp only [lens]); omega -splitDisjunctions))); all_goals try (repeat' ((first | ((with_reducible first | refine And.intro ?_ ?_ | refine Exists.intro ?_ ?_); first | omega | (simp <;> omega)) | (with_reducible refine spl (And.intro ?_ ?_) <;> intro _) | (refine CL.clo (hx) ?_) | (refine CM.clo (hx) ?_) | (refine CD.clo (hx) ?_)) <;> ((try simp (implicitDefEqProofs := false)); (try simp (implicitDefEqProofs := false) (disch := first | assumption | (try simp only [lens]); omega -splitDisjunctions))))))
        · rw [tv_2]
          simp only [frm_eq, fm_kind, fm_name, fm_kids, List.map_nil, List.map_cons]
          (((try simp (implicitDefEqProofs := false)); (try simp (implicitDefEqProofs := false) (disch := first | assumption | (try simp only [lens]); omega -splitDisjunctions))); all_goals try (repeat' ((first | ((with_reducible first | refine And.intro ?_ ?_ | refine Exists.intro ?_ ?_); first | omega | (simp <;> omega)) | (with_reducible refine spl (And.intro ?_ ?_) <;> intro _)) <;> ((try simp (implicitDefEqProofs := false)); (try simp (implicitDefEqProofs := false) (disch := first | assumption | (try simp only [lens]); omega -splitDisjunctions))))))
        · rw [tv_3]
          simp only [frm_eq, fm_kind, fm_name, fm_kids, List.map_nil, List.map_cons]
          (((try simp (implicitDefEqProofs := false)); (try simp (implicitDefEqProofs := false) (disch := first | assumption | (try simp only [lens]); omega -splitDisjunctions))); all_goals try (repeat' ((first | ((with_reducible first | refine And.intro ?_ ?_ | refine Exists.intro ?_ ?_); first | omega | (simp <;> omega)) | (with_reducible refine spl (And.intro ?_ ?_) <;> intro _)) <;> ((try simp (implicitDefEqProofs := false)); (try simp (implicitDefEqProofs := false) (disch := first | assumption | (try simp only [lens]); omega -splitDisjunctions))))))
        · rw [tv_4]
          rw [frm_eq (.mk _ _ _)]
          simp only [fm_kind, fm_name, fm_kids, List.map_nil, List.map_cons]
          generalize tv (fun x => memB x hs) a = x at *
          cases x <;> (((try simp (implicitDefEqProofs := false)); (try simp (implicitDefEqProofs := false) (disch := first | assumption | (try simp only [lens]); omega -splitDisjunctions))); all_goals try (repeat' ((first | ((with_reducible first | refine And.intro ?_ ?_ | refine Exists.intro ?_ ?_); first | omega | (simp <;> omega)) | (with_reducible refine spl (And.intro ?_ ?_) <;> intro _)) <;> ((try simp (implicitDefEqProofs := false)); (try simp (implicitDefEqProofs := false) (disch := first | assumption | (try simp only [lens]); omega -splitDisjunctions))))))
        · rw [tv_5]
          rw [frm_eq (.mk _ _ _)]
          simp only [fm_kind, fm_name, fm_kids, List.map_nil, List.map_cons]
          generalize tv (fun x => memB x hs) a = x at *
          generalize tv (fun x => memB x hs) b = y at *
          cases x <;> (((try simp (implicitDefEqProofs := false)); (try simp (implicitDefEqProofs := false) (disch := first | assumption | (try simp only [lens]); omega -splitDisjunctions))); all_goals try (repeat' ((first | ((with_reducible first | refine And.intro ?_ ?_ | refine Exists.intro ?_ ?_); first | omega | (simp <;> omega)) | (with_reducible refine spl (And.intro ?_ ?_) <;> intro _)) <;> ((try simp (implicitDefEqProofs := false)); (try simp (implicitDefEqProofs := false) (disch := first | assumption | (try simp only [lens]); omega -splitDisjunctions))))))
        · rw [tv_6]
          rw [frm_eq (.mk _ _ _)]
          simp only [fm_kind, fm_name, fm_kids, List.map_nil, List.map_cons]
          generalize tv (fun x => memB x hs) a = x at *
          generalize tv (fun x => memB x hs) b = y at *
          cases x <;> (((try simp (implicitDefEqProofs := false)); (try simp (implicitDefEqProofs := false) (disch := first | assumption | (try simp only [lens]); omega -splitDisjunctions))); all_goals try (repeat' ((first | ((with_reducible first | refine And.intro ?_ ?_ | refine Exists.intro ?_ ?_); first | omega | (simp <;> omega)) | (with_reducible refine spl (And.intro ?_ ?_) <;> intro _)) <;> ((try simp (implicitDefEqProofs := false)); (try simp (implicitDefEqProofs := false) (disch := first | assumption | (try simp only [lens]); omega -splitDisjunctions))))))
        · rw [tv_7]
          rw [frm_eq (.mk _ _ _)]
          simp only [fm_kind, fm_name, fm_kids, List.map_nil, List.map_cons]
          generalize tv (fun x => memB x hs) a = x at *
          generalize tv (fun x => memB x hs) b = y at *
          cases x <;> cases y <;> (((try simp (implicitDefEqProofs := false)); (try simp (implicitDefEqProofs := false) (disch := first | assumption | (try simp only [lens]); omega -splitDisjunctions))); all_goals try (repeat' ((first | ((with_reducible first | refine And.intro ?_ ?_ | refine Exists.intro ?_ ?_); first | omega | (simp <;> omega)) | (with_reducible refine spl (And.intro ?_ ?_) <;> intro _)) <;> ((try simp (implicitDefEqProofs := false)); (try simp (implicitDefEqProofs := false) (disch := first | assumption | (try simp only [lens]); omega -splitDisjunctions))))))
      | succ r ihr =>
        intro i hi
        have hik : i < f.kids.length := by omega
        have ihr := ihr (i + 1) (by omega)
        have hc := ih f.kids[i] (List.getElem_mem hik)
        rw [take_snoc hik, List.map_append, List.map_append, List.map_cons, List.map_nil] at ihr
        apply hQ
        clear hQ
        generalize tv (fun x => memB x hs) f.kids[i] = x at *
        (((try simp (implicitDefEqProofs := false) [hik]); (try simp (implicitDefEqProofs := false) (disch := first | assumption | (try simp only [lens]); omega -splitDisjunctions) [hik])); all_goals try (repeat' ((first | ((with_reducible first | refine And.intro ?_ ?_ | refine Exists.intro ?_ ?_); first | omega | (simp <;> omega)) | (with_reducible refine spl (And.intro ?_ ?_) <;> intro _) | (refine CL.clo (hc) ?_) | (refine CM.clo (hc) ?_) | (refine CD.clo (hc) ?_)) <;> ((try simp (implicitDefEqProofs := false) [hik]); (try simp (implicitDefEqProofs := false) (disch := first | assumption | (try simp only [lens]); omega -splitDisjunctions) [hik])))))
        all_goals first | exact ihr | (refine at2 ihr ?_ ?_ <;> simp; done) | (exfalso; first | omega | (simp_all; done) | (simp_all; omega))
    refine at2 (main _ 0 (Nat.zero_add _)) ?_ ?_ <;> simp
end Go.Proofs.Ytnoklmapofogeaa
