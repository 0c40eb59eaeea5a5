/-
  law02: turned, TruthMorgan.
-/
import Derived.Test.YtbmpmmbcfabeeaaTrK
namespace Go.Proofs.Ytbmpmmbcfabeeaa
open Go Go.Pv
set_option linter.unusedVariables false
set_option linter.unusedSimpArgs false
set_option maxRecDepth 100000
set_option maxHeartbeats 4000000

mutual
def turnF : Fm → Fm
  | .mk k n l =>
    let a := ((turnFs l)[0]?).getD (.mk 0 ⟨#[]⟩ [])
    let b := ((turnFs l)[1]?).getD (.mk 0 ⟨#[]⟩ [])
    if k = 1 then of1 4 (.mk k n l) else if k = 2 then .mk 3 ⟨#[]⟩ [] else if k = 3 then .mk 2 ⟨#[]⟩ [] else if k = 4 then of1 4 a else if k = 5 then of2 6 a b else if k = 6 then of2 5 a b else of2 5 (of1 4 a) b
def turnFs : List Fm → List Fm
  | [] => []
  | f :: r => turnF f :: turnFs r
end
section
variable {nm : ByteArray} {a b : Fm}
theorem turn_1 : turnF (.mk 1 nm []) = of1 4 (.mk 1 nm []) := by simp [turnF]
theorem turn_2 : turnF (.mk 2 nm []) = .mk 3 ⟨#[]⟩ [] := by simp [turnF]
theorem turn_3 : turnF (.mk 3 nm []) = .mk 2 ⟨#[]⟩ [] := by simp [turnF]
theorem turn_4 : turnF (.mk 4 nm [a]) = of1 4 (turnF a) := by simp [turnF, turnFs]
theorem turn_5 : turnF (.mk 5 nm [a, b]) = of2 6 (turnF a) (turnF b) := by simp [turnF, turnFs]
theorem turn_6 : turnF (.mk 6 nm [a, b]) = of2 5 (turnF a) (turnF b) := by simp [turnF, turnFs]
theorem turn_7 : turnF (.mk 7 nm [a, b]) = of2 5 (of1 4 (turnF a)) (turnF b) := by simp [turnF, turnFs]
end
theorem pl_of {f : Fm} (h : okN f) (hk : f.kind ≤ 7) (hs : ∀ g ∈ f.kids, Pl g) : Pl f := by
  refine ⟨fun x hx => ?_, fun x hx => ?_⟩
  · rw [pre_eq] at hx
    rcases List.mem_cons.1 hx with rfl | hx
    · exact h
    · obtain ⟨g, h1, h2⟩ := mem_pres _ hx; exact (hs g h1).1 x h2
  · rw [pre_eq] at hx
    rcases List.mem_cons.1 hx with rfl | hx
    · exact hk
    · obtain ⟨g, h1, h2⟩ := mem_pres _ hx; exact (hs g h1).2 x h2
theorem pl_1 {nm : ByteArray} (h : isNameB nm = true) : Pl (.mk 1 nm []) := pl_of (by simp [okN, kidsN, h]) (by simp) (by simp)
theorem pl_2 : Pl (.mk 2 ⟨#[]⟩ []) := pl_of (by simp [okN, kidsN]) (by simp) (by simp)
theorem pl_3 : Pl (.mk 3 ⟨#[]⟩ []) := pl_of (by simp [okN, kidsN]) (by simp) (by simp)
theorem pl_4 {a : Fm} (h : Pl a) : Pl (of1 4 a) := pl_of (by simp [okN, kidsN, of1]) (by simp [of1]) (by simp [of1, h])
theorem pl_k {k : Int} {a b : Fm} (h1 : 5 ≤ k) (h2 : k ≤ 7) (ha : Pl a) (hb : Pl b) : Pl (of2 k a b) := pl_of (by
  have : k = 5 ∨ k = 6 ∨ k = 7 := by omega
  rcases this with rfl | rfl | rfl <;> simp [okN, kidsN, of2]) (by simpa [of2] using h2) (by simp [of2, ha, hb])
theorem pre_of1n (k : Int) (a : Fm) : (pre (of1 k a)).length = (pre a).length + 1 := by rw [pre_eq]; simp [of1, pres_cons, pres_nil]
theorem pre_of2n (k : Int) (a b : Fm) : (pre (of2 k a b)).length = (pre a).length + (pre b).length + 1 := by rw [pre_eq]; simp [of2, pres_cons, pres_nil]
theorem turn_ok (f : Fm) (hf : Pl f) : Pl (turnF f) ∧ (pre (turnF f)).length ≤ 2 * (pre f).length ∧ ∀ h, tv h (turnF f) = !tv h f := by
  induction f using Fm.ind with
  | h f ih =>
    have ih := fun g hg => ih g hg (hf.kid hg)
    rcases hf.seven with ⟨nm, hn, rfl⟩ | rfl | rfl | ⟨a, ha, rfl⟩ | ⟨a, b, ha, hb, rfl⟩ | ⟨a, b, ha, hb, rfl⟩ | ⟨a, b, ha, hb, rfl⟩
    · rw [turn_1]
      exact ⟨pl_4 hf, by rw [pre_of1n]; have := pre_pos (.mk 1 nm []); omega, fun h => tv_4⟩
    · rw [turn_2]
      exact ⟨pl_3, by simp [pre_eq, pres_nil], fun h => by rw [tv_2, tv_3]; rfl⟩
    · rw [turn_3]
      exact ⟨pl_2, by simp [pre_eq, pres_nil], fun h => by rw [tv_2, tv_3]; rfl⟩
    · obtain ⟨h1, h2, h3⟩ := ih a (by simp)
      rw [turn_4]
      have e := pre_of1n 4 a
      rw [show of1 4 a = .mk 4 ⟨#[]⟩ [a] from rfl] at e
      exact ⟨pl_4 h1, by rw [pre_of1n, e]; omega, fun h => by rw [show of1 4 (turnF a) = .mk 4 ⟨#[]⟩ [turnF a] from rfl, tv_4, tv_4, h3]⟩
    · obtain ⟨h1, h2, h3⟩ := ih a (by simp)
      obtain ⟨g1, g2, g3⟩ := ih b (by simp)
      rw [turn_5]
      have e := pre_of2n 5 a b
      rw [show of2 5 a b = .mk 5 ⟨#[]⟩ [a, b] from rfl] at e
      exact ⟨pl_k (by decide) (by decide) h1 g1, by rw [pre_of2n, e]; omega, fun h => by rw [show of2 6 (turnF a) (turnF b) = .mk 6 ⟨#[]⟩ [turnF a, turnF b] from rfl, tv_6, tv_5, h3, g3, Bool.not_and]⟩
    · obtain ⟨h1, h2, h3⟩ := ih a (by simp)
      obtain ⟨g1, g2, g3⟩ := ih b (by simp)
      rw [turn_6]
      have e := pre_of2n 6 a b
      rw [show of2 6 a b = .mk 6 ⟨#[]⟩ [a, b] from rfl] at e
      exact ⟨pl_k (by decide) (by decide) h1 g1, by rw [pre_of2n, e]; omega, fun h => by rw [show of2 5 (turnF a) (turnF b) = .mk 5 ⟨#[]⟩ [turnF a, turnF b] from rfl, tv_5, tv_6, h3, g3, Bool.not_or]⟩
    · obtain ⟨h1, h2, h3⟩ := ih a (by simp)
      obtain ⟨g1, g2, g3⟩ := ih b (by simp)
      rw [turn_7]
      have e := pre_of2n 7 a b
      rw [show of2 7 a b = .mk 7 ⟨#[]⟩ [a, b] from rfl] at e
      exact ⟨pl_k (by decide) (by decide) (pl_4 h1) g1, by rw [pre_of2n, pre_of1n, e]; omega, fun h => by
        rw [show of2 5 (of1 4 (turnF a)) (turnF b) = .mk 5 ⟨#[]⟩ [.mk 4 ⟨#[]⟩ [turnF a], turnF b] from rfl, tv_5, tv_4, tv_7, h3, g3, Bool.not_or]⟩
theorem of1_law (k : Int) (a : Fm) : CallOK Try.prog 51 [.int .i64 k, .agg (frm a)] [] (.agg (frm (of1 k a))) [] := of_law k a []
theorem of2_law (k : Int) (a b : Fm) : CallOK Try.prog 36 [.int .i64 k, .agg (frm a), .agg (frm b)] [] (.agg (frm (of2 k a b))) [] := both_law k a b []
def x53 : XC := .seq (.reg [⟨some 1,.box 24 (.tmp 0),none⟩,⟨some 2,.alloc 24,none⟩]) (.seq (.seq (.reg [⟨some 3,.fieldAddr 24 (.tmp 1) 0,none⟩,⟨some 4,.load 3 (.tmp 3),none⟩]) (.block 0 (.seq (.reg [⟨some 6,.binOp .eql 3 (.tmp 4) (.const (.int .i64 1)) 3,none⟩,⟨some 5,.assign (.tmp 6),none⟩]) (.cond (.tmp 5) (.seq (.reg [⟨some 7,.load 24 (.tmp 1),none⟩,⟨some 8,.call ⟨.value (.func 51),#[.const (.int .i64 4),.tmp 7],#[3,24]⟩,none⟩,⟨none,.store 24 (.tmp 2) (.tmp 8),none⟩]) (.ret)) (.seq (.reg [⟨some 10,.binOp .eql 3 (.tmp 4) (.const (.int .i64 2)) 3,none⟩,⟨some 9,.assign (.tmp 10),none⟩]) (.cond (.tmp 9) (.seq (.reg [⟨some 11,.build 24 #[(0,.const (.int .i64 3))],none⟩,⟨none,.store 24 (.tmp 2) (.tmp 11),none⟩]) (.ret)) (.seq (.reg [⟨some 13,.binOp .eql 3 (.tmp 4) (.const (.int .i64 3)) 3,none⟩,⟨some 12,.assign (.tmp 13),none⟩]) (.cond (.tmp 12) (.seq (.reg [⟨some 14,.build 24 #[(0,.const (.int .i64 2))],none⟩,⟨none,.store 24 (.tmp 2) (.tmp 14),none⟩]) (.ret)) (.seq (.reg [⟨some 16,.binOp .eql 3 (.tmp 4) (.const (.int .i64 4)) 3,none⟩,⟨some 15,.assign (.tmp 16),none⟩]) (.cond (.tmp 15) (.seq (.reg [⟨some 17,.fieldAddr 24 (.tmp 1) 2,none⟩,⟨some 18,.load 22 (.tmp 17),none⟩,⟨some 19,.indexAddr 22 (.tmp 18) (.const (.int .i64 0)),none⟩,⟨some 20,.load 24 (.tmp 19),none⟩,⟨some 21,.call ⟨.value (.func 53),#[.tmp 20],#[24]⟩,none⟩,⟨some 22,.call ⟨.value (.func 51),#[.const (.int .i64 4),.tmp 21],#[3,24]⟩,none⟩,⟨none,.store 24 (.tmp 2) (.tmp 22),none⟩]) (.ret)) (.seq (.reg [⟨some 24,.binOp .eql 3 (.tmp 4) (.const (.int .i64 5)) 3,none⟩,⟨some 23,.assign (.tmp 24),none⟩]) (.cond (.tmp 23) (.seq (.drawn 11 [⟨some 25,.fieldAddr 24 (.tmp 1) 2,none⟩,⟨some 26,.load 22 (.tmp 25),none⟩,⟨some 27,.indexAddr 22 (.tmp 26) (.const (.int .i64 0)),none⟩,⟨some 28,.load 24 (.tmp 27),none⟩,⟨some 29,.call ⟨.value (.func 53),#[.tmp 28],#[24]⟩,none⟩,⟨some 30,.fieldAddr 24 (.tmp 1) 2,none⟩,⟨some 31,.load 22 (.tmp 30),none⟩,⟨some 32,.indexAddr 22 (.tmp 31) (.const (.int .i64 1)),none⟩,⟨some 33,.load 24 (.tmp 32),none⟩,⟨some 34,.call ⟨.value (.func 53),#[.tmp 33],#[24]⟩,none⟩,⟨some 35,.call ⟨.value (.func 36),#[.const (.int .i64 6),.tmp 29,.tmp 34],#[3,24,24]⟩,none⟩,⟨none,.store 24 (.tmp 2) (.tmp 35),none⟩]) (.ret)) (.seq (.reg [⟨some 37,.binOp .eql 3 (.tmp 4) (.const (.int .i64 6)) 3,none⟩,⟨some 36,.assign (.tmp 37),none⟩]) (.cond (.tmp 36) (.seq (.drawn 13 [⟨some 38,.fieldAddr 24 (.tmp 1) 2,none⟩,⟨some 39,.load 22 (.tmp 38),none⟩,⟨some 40,.indexAddr 22 (.tmp 39) (.const (.int .i64 0)),none⟩,⟨some 41,.load 24 (.tmp 40),none⟩,⟨some 42,.call ⟨.value (.func 53),#[.tmp 41],#[24]⟩,none⟩,⟨some 43,.fieldAddr 24 (.tmp 1) 2,none⟩,⟨some 44,.load 22 (.tmp 43),none⟩,⟨some 45,.indexAddr 22 (.tmp 44) (.const (.int .i64 1)),none⟩,⟨some 46,.load 24 (.tmp 45),none⟩,⟨some 47,.call ⟨.value (.func 53),#[.tmp 46],#[24]⟩,none⟩,⟨some 48,.call ⟨.value (.func 36),#[.const (.int .i64 5),.tmp 42,.tmp 47],#[3,24,24]⟩,none⟩,⟨none,.store 24 (.tmp 2) (.tmp 48),none⟩]) (.ret)) (.skip))))))))))))))) (.seq (.drawn 14 [⟨some 49,.fieldAddr 24 (.tmp 1) 2,none⟩,⟨some 50,.load 22 (.tmp 49),none⟩,⟨some 51,.indexAddr 22 (.tmp 50) (.const (.int .i64 0)),none⟩,⟨some 52,.load 24 (.tmp 51),none⟩,⟨some 53,.call ⟨.value (.func 53),#[.tmp 52],#[24]⟩,none⟩,⟨some 54,.call ⟨.value (.func 51),#[.const (.int .i64 4),.tmp 53],#[3,24]⟩,none⟩,⟨some 55,.fieldAddr 24 (.tmp 1) 2,none⟩,⟨some 56,.load 22 (.tmp 55),none⟩,⟨some 57,.indexAddr 22 (.tmp 56) (.const (.int .i64 1)),none⟩,⟨some 58,.load 24 (.tmp 57),none⟩,⟨some 59,.call ⟨.value (.func 53),#[.tmp 58],#[24]⟩,none⟩,⟨some 60,.call ⟨.value (.func 36),#[.const (.int .i64 5),.tmp 54,.tmp 59],#[3,24,24]⟩,none⟩,⟨none,.store 24 (.tmp 2) (.tmp 60),none⟩]) (.ret)))
@[simp] theorem x53_s {C : WC} {e : AE} {s : Store} {K : KS} : type_of% (@X_at C e s K _ _ x53.eq_1) := X_at x53.eq_1
def an53 : Ann := ⟨[(11, .mix 9), (13, .mix 9), (14, .mix 10)], [], []⟩
def cx53 (P : Program) (m : Nat) : WC := ⟨P, m, an53⟩
@[simp] theorem cx53_a {P : Program} {m : Nat} : (cx53 P m).P = P ∧ (cx53 P m).m = m ∧ (cx53 P m).A.clsOf 11 = .mix 9 ∧ (cx53 P m).A.clsOf 13 = .mix 9 ∧ (cx53 P m).A.clsOf 14 = .mix 10 ∧ (cx53 P m).A.frzOf 11 = [] ∧ (cx53 P m).A.frzOf 13 = [] ∧ (cx53 P m).A.frzOf 14 = [] := ⟨rfl, rfl, rfl, rfl, rfl, rfl, rfl, rfl⟩
instance {P : Program} {m f : Nat} [h : EnT P f] : EnT (cx53 P m).P f := h
theorem chk53 : ∀ c, Try.f53.body = some c → chkC Try.f53.ntmps an53 c = true := by intro c h; obtain rfl := Option.some.inj h; decide +kernel
theorem op53 {args : List PV} {v : PV} (h : X (cx53 Try.prog 0) x53 (argsA 0 args) [] (.fin [.cell 2 24] fun v1 s1 => deref s1 6 v1 = v)) (hl : args.length ≤ Try.f53.ntmps := by rw [Try.ntmps53]; simp) : CallOK Try.prog 53 args [] v [] :=
  callX (m := 0) (cx53 Try.prog 0) x53 rfl rfl (by kernel_rfl) Try.func53 rfl rfl hl mixed (chk53 _ rfl) (by rw [Try.results53]; exact h)
theorem os53 {args : List PV} {v : PV} (h : X (cx53 Try.prog 0) x53 (argsA 0 args) [] (.fin [.cell 2 24] fun v1 s1 => softV (deref s1 6 v1) = v)) (hl : args.length ≤ Try.f53.ntmps := by rw [Try.ntmps53]; simp) : CallOK Try.prog 53 args [] v [] :=
  callXF (m := 0) (cx53 Try.prog 0) x53 rfl rfl (by kernel_rfl) Try.func53 rfl rfl hl mixed (chk53 _ rfl) (by rw [Try.results53]; exact h)

theorem turned_law (f : Fm) (hf : Pl f) : CallOK Try.prog 53 [.agg (frm f)] [] (.agg (frm (turnF f))) [] := by
  induction f using Fm.ind with
  | h f ih =>
    have ih := fun g hg => ih g hg (hf.kid hg)
    rcases hf.seven with ⟨nm, hn, rfl⟩ | rfl | rfl | ⟨a, ha, rfl⟩ | ⟨a, b, ha, hb, rfl⟩ | ⟨a, b, ha, hb, rfl⟩ | ⟨a, b, ha, hb, rfl⟩
    · have ho := of1_law 4 (.mk 1 nm [])
      rw [turn_1]
      generalize of1 4 (.mk 1 nm []) = R at *
      rw [frm_eq (.mk _ _ _)] at ho ⊢
      simp only [fm_kind, fm_name, fm_kids, List.map_nil, List.map_cons] at ho ⊢
      refine op53 ?_
      (((try simp (implicitDefEqProofs := false)); (try simp (implicitDefEqProofs := false) (disch := first | assumption | (try simp only [lens]); omega -splitDisjunctions))); all_goals try (repeat' ((first | ((with_reducible first | refine And.intro ?_ ?_ | refine Exists.intro ?_ ?_); first | omega | (simp <;> omega)) | (with_reducible refine spl (And.intro ?_ ?_) <;> intro _) | (refine CL.clo (ho) ?_) | (refine CM.clo (ho) ?_) | (refine CD.clo (ho) ?_)) <;> ((try simp (implicitDefEqProofs := false)); (try simp (implicitDefEqProofs := false) (disch := first | assumption | (try simp only [lens]); omega -splitDisjunctions))))))
    · rw [turn_2, frm_eq (.mk 3 _ _), frm_eq (.mk _ _ _)]
      simp only [fm_kind, fm_name, fm_kids, List.map_nil, List.map_cons]
      refine os53 ?_
      (((try simp (implicitDefEqProofs := false)); (try simp (implicitDefEqProofs := false) (disch := first | assumption | (try simp only [lens]); omega -splitDisjunctions))); all_goals try (repeat' ((first | ((with_reducible first | refine And.intro ?_ ?_ | refine Exists.intro ?_ ?_); first | omega | (simp <;> omega)) | (with_reducible refine spl (And.intro ?_ ?_) <;> intro _)) <;> ((try simp (implicitDefEqProofs := false)); (try simp (implicitDefEqProofs := false) (disch := first | assumption | (try simp only [lens]); omega -splitDisjunctions))))))
    · rw [turn_3, frm_eq (.mk 2 _ _), frm_eq (.mk _ _ _)]
      simp only [fm_kind, fm_name, fm_kids, List.map_nil, List.map_cons]
      refine os53 ?_
      (((try simp (implicitDefEqProofs := false)); (try simp (implicitDefEqProofs := false) (disch := first | assumption | (try simp only [lens]); omega -splitDisjunctions))); all_goals try (repeat' ((first | ((with_reducible first | refine And.intro ?_ ?_ | refine Exists.intro ?_ ?_); first | omega | (simp <;> omega)) | (with_reducible refine spl (And.intro ?_ ?_) <;> intro _)) <;> ((try simp (implicitDefEqProofs := false)); (try simp (implicitDefEqProofs := false) (disch := first | assumption | (try simp only [lens]); omega -splitDisjunctions))))))
    · have h1 := ih a (by simp)
      have ho := of1_law 4 (turnF a)
      rw [turn_4]
      generalize of1 4 (turnF a) = R at *
      generalize turnF a = a' at *
      rw [frm_eq (.mk _ _ _)]
      simp only [fm_kind, fm_name, fm_kids, List.map_nil, List.map_cons]
      refine op53 ?_
      (((try simp (implicitDefEqProofs := false)); (try simp (implicitDefEqProofs := false) (disch := first | assumption | (try simp only [lens]); omega -splitDisjunctions))); all_goals try (repeat' ((first | ((with_reducible first | refine And.intro ?_ ?_ | refine Exists.intro ?_ ?_); first | omega | (simp <;> omega)) | (with_reducible refine spl (And.intro ?_ ?_) <;> intro _) | (refine CL.clo (h1) ?_) | (refine CM.clo (h1) ?_) | (refine CD.clo (h1) ?_) | (refine CL.clo (ho) ?_) | (refine CM.clo (ho) ?_) | (refine CD.clo (ho) ?_)) <;> ((try simp (implicitDefEqProofs := false)); (try simp (implicitDefEqProofs := false) (disch := first | assumption | (try simp only [lens]); omega -splitDisjunctions))))))
    · have h1 := ih a (by simp)
      have h2 := ih b (by simp)
      have ho := of2_law 6 (turnF a) (turnF b)
      rw [turn_5]
      generalize of2 6 (turnF a) (turnF b) = R at *
      generalize turnF a = a' at *
      generalize turnF b = b' at *
      rw [frm_eq (.mk _ _ _)]
      simp only [fm_kind, fm_name, fm_kids, List.map_nil, List.map_cons]
      refine op53 ?_
      (((try simp (implicitDefEqProofs := false)); (try simp (implicitDefEqProofs := false) (disch := first | assumption | (try simp only [lens]); omega -splitDisjunctions))); all_goals try (repeat' ((first | ((with_reducible first | refine And.intro ?_ ?_ | refine Exists.intro ?_ ?_); first | omega | (simp <;> omega)) | (with_reducible refine spl (And.intro ?_ ?_) <;> intro _) | (refine CL.clo (h1) ?_) | (refine CM.clo (h1) ?_) | (refine CD.clo (h1) ?_) | (refine CL.clo (h2) ?_) | (refine CM.clo (h2) ?_) | (refine CD.clo (h2) ?_) | (refine CL.clo (ho) ?_) | (refine CM.clo (ho) ?_) | (refine CD.clo (ho) ?_)) <;> ((try simp (implicitDefEqProofs := false)); (try simp (implicitDefEqProofs := false) (disch := first | assumption | (try simp only [lens]); omega -splitDisjunctions))))))
    · have h1 := ih a (by simp)
      have h2 := ih b (by simp)
      have ho := of2_law 5 (turnF a) (turnF b)
      rw [turn_6]
      generalize of2 5 (turnF a) (turnF b) = R at *
      generalize turnF a = a' at *
      generalize turnF b = b' at *
      rw [frm_eq (.mk _ _ _)]
      simp only [fm_kind, fm_name, fm_kids, List.map_nil, List.map_cons]
      refine op53 ?_
      (((try simp (implicitDefEqProofs := false)); (try simp (implicitDefEqProofs := false) (disch := first | assumption | (try simp only [lens]); omega -splitDisjunctions))); all_goals try (repeat' ((first | ((with_reducible first | refine And.intro ?_ ?_ | refine Exists.intro ?_ ?_); first | omega | (simp <;> omega)) | (with_reducible refine spl (And.intro ?_ ?_) <;> intro _) | (refine CL.clo (h1) ?_) | (refine CM.clo (h1) ?_) | (refine CD.clo (h1) ?_) | (refine CL.clo (h2) ?_) | (refine CM.clo (h2) ?_) | (refine CD.clo (h2) ?_) | (refine CL.clo (ho) ?_) | (refine CM.clo (ho) ?_) | (refine CD.clo (ho) ?_)) <;> ((try simp (implicitDefEqProofs := false)); (try simp (implicitDefEqProofs := false) (disch := first | assumption | (try simp only [lens]); omega -splitDisjunctions))))))
    · have h1 := ih a (by simp)
      have h2 := ih b (by simp)
      have h3 := of1_law 4 (turnF a)
      have ho := of2_law 5 (of1 4 (turnF a)) (turnF b)
      rw [turn_7]
      generalize of2 5 (of1 4 (turnF a)) (turnF b) = R at *
      generalize of1 4 (turnF a) = c' at *
      generalize turnF a = a' at *
      generalize turnF b = b' at *
      rw [frm_eq (.mk _ _ _)]
      simp only [fm_kind, fm_name, fm_kids, List.map_nil, List.map_cons]
      refine op53 ?_
      (((try simp (implicitDefEqProofs := false)); (try simp (implicitDefEqProofs := false) (disch := first | assumption | (try simp only [lens]); omega -splitDisjunctions))); all_goals try (repeat' ((first | ((with_reducible first | refine And.intro ?_ ?_ | refine Exists.intro ?_ ?_); first | omega | (simp <;> omega)) | (with_reducible refine spl (And.intro ?_ ?_) <;> intro _) | (refine CL.clo (h1) ?_) | (refine CM.clo (h1) ?_) | (refine CD.clo (h1) ?_) | (refine CL.clo (h2) ?_) | (refine CM.clo (h2) ?_) | (refine CD.clo (h2) ?_) | (refine CL.clo (h3) ?_) | (refine CM.clo (h3) ?_) | (refine CD.clo (h3) ?_) | (refine CL.clo (ho) ?_) | (refine CM.clo (ho) ?_) | (refine CD.clo (ho) ?_)) <;> ((try simp (implicitDefEqProofs := false)); (try simp (implicitDefEqProofs := false) (disch := first | assumption | (try simp only [lens]); omega -splitDisjunctions))))))
theorem valueV_eq {f g : Fm} (hf : (plainF f).1 = 0) (hg : (plainF g).1 = 0) (hs : List ByteArray) (h : ∀ h, tv h g = !tv h f) :
    (∃ w : Int × Int, w.1 ≠ 0 ∧ valueV f hs = (false, w) ∧ valueV g hs = (false, w)) ∨ ∃ b, valueV f hs = (b, (0, 0)) ∧ valueV g hs = (!b, (0, 0)) := by
  have key : ∀ x, (plainF x).1 = 0 → valueV x hs = if 1000 < hs.length then (false, (2, 0)) else match nameBad hs 0 with
    | some w => (false, w)
    | none => (tv (fun y => memB y hs) x, (0, 0)) := fun x hx => by unfold valueV; rw [if_neg (by simpa using hx)]; rfl
  rw [key f hf, key g hg]
  by_cases hl : 1000 < hs.length
  · rw [if_pos hl, if_pos hl]; exact .inl ⟨(2, 0), by decide, rfl, rfl⟩
  · rw [if_neg hl, if_neg hl]
    cases hb : nameBad hs 0 with
    | some w => exact .inl ⟨w, by rw [nameBad_code _ _ _ hb]; decide, rfl, rfl⟩
    | none => exact .inr ⟨_, rfl, by simp only [h]⟩
theorem walk80 {f : Fm} (h : ¬ 60 < (walkL f 80).length) : (pre f).length ≤ 60 := by
  rw [show (80 : Int) = ((80 : Nat) : Int) from rfl, walk_take, List.length_take] at h
  omega
def x10 : XC := .seq (.reg [⟨some 2,.box 24 (.tmp 0),none⟩,⟨some 4,.assign (.const (.bool false)),none⟩]) (.seq (.seq (.reg [⟨some 9,.call ⟨.value (.func 28),#[],#[]⟩,none⟩,⟨some 10,.unOp .not 4 (.tmp 9),none⟩]) (.cond (.tmp 10) (.seq (.reg [⟨some 4,.assign (.const (.bool false)),none⟩]) (.ret)) (.skip))) (.seq (.seq (.reg [⟨some 11,.load 24 (.tmp 2),none⟩,⟨some 12,.call ⟨.value (.func 16),#[.tmp 11,.const (.int .i64 0)],#[24,3]⟩,none⟩,⟨some 13,.move (.tmp 12),none⟩,⟨some 14,.load 24 (.tmp 2),some (some 13,false)⟩,⟨some 15,.buildSlice 22 1 #[(0,.tmp 14)],some (some 13,false)⟩,⟨some 16,.call ⟨.value (.func 31),#[.tmp 15],#[22]⟩,some (some 13,false)⟩,⟨some 17,.field 29 (.tmp 16) 0,some (some 13,false)⟩,⟨some 18,.binOp .neq 3 (.tmp 17) (.const (.int .i64 0)) 3,some (some 13,false)⟩,⟨some 19,.pick (.tmp 13) (.const (.bool true)) (.tmp 18),none⟩,⟨some 20,.move (.tmp 19),none⟩,⟨some 21,.load 24 (.tmp 2),some (some 20,false)⟩,⟨some 22,.call ⟨.value (.func 34),#[.tmp 21,.const (.int .i64 80)],#[24,3]⟩,some (some 20,false)⟩,⟨some 23,.call ⟨.builtin .len,#[.tmp 22],#[22]⟩,some (some 20,false)⟩,⟨some 24,.binOp .gtr 3 (.tmp 23) (.const (.int .i64 60)) 3,some (some 20,false)⟩,⟨some 25,.pick (.tmp 20) (.const (.bool true)) (.tmp 24),none⟩]) (.cond (.tmp 25) (.seq (.reg [⟨some 4,.assign (.const (.bool true)),none⟩]) (.ret)) (.skip))) (.seq (.reg [⟨some 27,.load 24 (.tmp 2),none⟩,⟨some 28,.move (.tmp 1),none⟩,⟨some 29,.call ⟨.value (.func 52),#[.tmp 27,.tmp 28],#[24,53]⟩,none⟩,⟨some 26,.move (.tmp 29),none⟩,⟨some 30,.extract (.tmp 26) 0,none⟩,⟨some 31,.extract (.tmp 26) 1,none⟩,⟨some 6,.alloc 29,none⟩,⟨some 5,.assign (.tmp 30),none⟩,⟨none,.store 29 (.tmp 6) (.tmp 31),none⟩]) (.seq (.reg [⟨some 33,.load 24 (.tmp 2),none⟩,⟨some 34,.call ⟨.value (.func 53),#[.tmp 33],#[24]⟩,none⟩,⟨some 35,.move (.tmp 1),none⟩,⟨some 36,.call ⟨.value (.func 52),#[.tmp 34,.tmp 35],#[24,53]⟩,none⟩,⟨some 32,.move (.tmp 36),none⟩,⟨some 37,.extract (.tmp 32) 0,none⟩,⟨some 38,.extract (.tmp 32) 1,none⟩,⟨some 8,.alloc 29,none⟩,⟨some 7,.assign (.tmp 37),none⟩,⟨none,.store 29 (.tmp 8) (.tmp 38),none⟩]) (.seq (.reg [⟨some 39,.fieldAddr 29 (.tmp 6) 0,none⟩,⟨some 40,.load 3 (.tmp 39),none⟩,⟨some 41,.binOp .neq 3 (.tmp 40) (.const (.int .i64 0)) 3,none⟩,⟨some 42,.move (.tmp 41),none⟩,⟨some 43,.fieldAddr 29 (.tmp 8) 0,some (some 42,false)⟩,⟨some 44,.load 3 (.tmp 43),some (some 42,false)⟩,⟨some 45,.binOp .eql 3 (.tmp 44) (.const (.int .i64 0)) 3,some (some 42,false)⟩,⟨some 46,.move (.tmp 45),some (some 42,false)⟩,⟨some 47,.move (.tmp 5),some (some 46,true)⟩,⟨some 48,.move (.tmp 7),some (some 46,true)⟩,⟨some 49,.binOp .neq 4 (.tmp 47) (.tmp 48) 4,some (some 46,true)⟩,⟨some 50,.pick (.tmp 46) (.tmp 49) (.const (.bool false)),some (some 42,false)⟩,⟨some 51,.pick (.tmp 42) (.const (.bool true)) (.tmp 50),none⟩,⟨some 4,.assign (.tmp 51),none⟩]) (.ret))))))
@[simp] theorem x10_s {C : WC} {e : AE} {s : Store} {K : KS} : type_of% (@X_at C e s K _ _ x10.eq_1) := X_at x10.eq_1
def an10 : Ann := ⟨[], [], []⟩
def cx10 (P : Program) (m : Nat) : WC := ⟨P, m, an10⟩
@[simp] theorem cx10_a {P : Program} {m : Nat} : (cx10 P m).P = P ∧ (cx10 P m).m = m := ⟨rfl, rfl⟩
instance {P : Program} {m f : Nat} [h : EnT P f] : EnT (cx10 P m).P f := h
theorem chk10 : ∀ c, Try.f10.body = some c → chkC Try.f10.ntmps an10 c = true := by intro c h; obtain rfl := Option.some.inj h; decide +kernel
theorem op10 {args : List PV} {v : PV} (h : X (cx10 Try.prog 0) x10 (argsA 0 args) [] (.fin [.tmp 4] fun v1 s1 => deref s1 6 v1 = v)) (hl : args.length ≤ Try.f10.ntmps := by rw [Try.ntmps10]; simp) : CallOK Try.prog 10 args [] v [] :=
  callX (m := 0) (cx10 Try.prog 0) x10 rfl rfl (by kernel_rfl) Try.func10 rfl rfl hl mixed (chk10 _ rfl) (by rw [Try.results10]; exact h)

theorem truthMorgan_law (f : Fm) (hs : List ByteArray) : CallOK Try.prog 10 [.agg (frm f), .list (hs.map strRow)] [] (.bool true) [] := by
  have hbg := truthBegun_law
  have hva := vast_ref f 0 (by omega) (by omega) []
  have hpf := PlainFault_ref [f] (by simp)
  rw [plainL_one] at hpf
  simp only [List.map_cons, List.map_nil] at hpf
  have hw := walk_ref f 80 (by decide) (by decide) []
  refine op10 ?_
  generalize vastB f 0 = vb at *
  cases vb with
  | true => (((try simp (implicitDefEqProofs := false)); (try simp (implicitDefEqProofs := false) (disch := first | assumption | (try simp only [lens]); omega -splitDisjunctions))); all_goals try (repeat' ((first | ((with_reducible first | refine And.intro ?_ ?_ | refine Exists.intro ?_ ?_); first | omega | (simp <;> omega)) | (with_reducible refine spl (And.intro ?_ ?_) <;> intro _) | (refine CL.clo (hbg) ?_) | (refine CM.clo (hbg) ?_) | (refine CD.clo (hbg) ?_) | (refine CL.clo (hva) ?_) | (refine CM.clo (hva) ?_) | (refine CD.clo (hva) ?_)) <;> ((try simp (implicitDefEqProofs := false)); (try simp (implicitDefEqProofs := false) (disch := first | assumption | (try simp only [lens]); omega -splitDisjunctions))))))
  | false =>
    by_cases h1 : (plainF f).1 = 0
    · by_cases h2 : 60 < (walkL f 80).length
      · have h2i : (60 : Int) < ((walkL f 80).length : Int) := by omega
        generalize walkL f 80 = L at *
        generalize plainF f = w at *
        (((try simp (implicitDefEqProofs := false)); (try simp (implicitDefEqProofs := false) (disch := first | assumption | (try simp only [lens]); omega -splitDisjunctions))); all_goals try (repeat' ((first | ((with_reducible first | refine And.intro ?_ ?_ | refine Exists.intro ?_ ?_); first | omega | (simp <;> omega)) | (with_reducible refine spl (And.intro ?_ ?_) <;> intro _) | (refine CL.clo (hbg) ?_) | (refine CM.clo (hbg) ?_) | (refine CD.clo (hbg) ?_) | (refine CL.clo (hva) ?_) | (refine CM.clo (hva) ?_) | (refine CD.clo (hva) ?_)) <;> ((try simp (implicitDefEqProofs := false)); (try simp (implicitDefEqProofs := false) (disch := first | assumption | (try simp only [lens]); omega -splitDisjunctions))))))
        refine CL.giv [1] ?_
        (((try simp (implicitDefEqProofs := false) [h1, h2i]); (try simp (implicitDefEqProofs := false) (disch := first | assumption | (try simp only [lens]); omega -splitDisjunctions) [h1, h2i])); all_goals try (repeat' ((first | ((with_reducible first | refine And.intro ?_ ?_ | refine Exists.intro ?_ ?_); first | omega | (simp <;> omega)) | (with_reducible refine spl (And.intro ?_ ?_) <;> intro _) | (refine CL.clo (hpf) ?_) | (refine CM.clo (hpf) ?_) | (refine CD.clo (hpf) ?_) | (refine CL.clo (hw) ?_) | (refine CM.clo (hw) ?_) | (refine CD.clo (hw) ?_)) <;> ((try simp (implicitDefEqProofs := false) [h1, h2i]); (try simp (implicitDefEqProofs := false) (disch := first | assumption | (try simp only [lens]); omega -splitDisjunctions) [h1, h2i])))))
      · have hlen := walk80 h2
        have h2i : ¬ (60 : Int) < ((walkL f 80).length : Int) := by omega
        have hpl := ((plainF_iff f).1 h1).1
        obtain ⟨t1, t2, t3⟩ := turn_ok f hpl
        have ht := turned_law f hpl
        have hv1 := Value_truth f hs
        have hv2 := Value_truth (turnF f) hs
        have h4 : (plainF (turnF f)).1 = 0 := (plainF_iff _).2 ⟨t1, by omega⟩
        have hvv := valueV_eq h1 h4 hs t3
        generalize walkL f 80 = L at *
        generalize turnF f = g at *
        rcases hvv with ⟨w, hw0, e1, e2⟩ | ⟨b, e1, e2⟩
        · rw [e1] at hv1
          rw [e2] at hv2
          generalize plainF f = w' at *
          (((try simp (implicitDefEqProofs := false)); (try simp (implicitDefEqProofs := false) (disch := first | assumption | (try simp only [lens]); omega -splitDisjunctions))); all_goals try (repeat' ((first | ((with_reducible first | refine And.intro ?_ ?_ | refine Exists.intro ?_ ?_); first | omega | (simp <;> omega)) | (with_reducible refine spl (And.intro ?_ ?_) <;> intro _) | (refine CL.clo (hbg) ?_) | (refine CM.clo (hbg) ?_) | (refine CD.clo (hbg) ?_) | (refine CL.clo (hva) ?_) | (refine CM.clo (hva) ?_) | (refine CD.clo (hva) ?_)) <;> ((try simp (implicitDefEqProofs := false)); (try simp (implicitDefEqProofs := false) (disch := first | assumption | (try simp only [lens]); omega -splitDisjunctions))))))
          refine CL.giv [1] ?_
          (((try simp (implicitDefEqProofs := false) [h1, h2i, hw0]); (try simp (implicitDefEqProofs := false) (disch := first | assumption | (try simp only [lens]); omega -splitDisjunctions) [h1, h2i, hw0])); all_goals try (repeat' ((first | ((with_reducible first | refine And.intro ?_ ?_ | refine Exists.intro ?_ ?_); first | omega | (simp <;> omega)) | (with_reducible refine spl (And.intro ?_ ?_) <;> intro _) | (refine CL.clo (hpf) ?_) | (refine CM.clo (hpf) ?_) | (refine CD.clo (hpf) ?_) | (refine CL.clo (hw) ?_) | (refine CM.clo (hw) ?_) | (refine CD.clo (hw) ?_) | (refine CL.clo (hv1) ?_) | (refine CM.clo (hv1) ?_) | (refine CD.clo (hv1) ?_) | (refine CL.clo (ht) ?_) | (refine CM.clo (ht) ?_) | (refine CD.clo (ht) ?_) | (refine CL.clo (hv2) ?_) | (refine CM.clo (hv2) ?_) | (refine CD.clo (hv2) ?_)) <;> ((try simp (implicitDefEqProofs := false) [h1, h2i, hw0]); (try simp (implicitDefEqProofs := false) (disch := first | assumption | (try simp only [lens]); omega -splitDisjunctions) [h1, h2i, hw0])))))
        · rw [e1] at hv1
          rw [e2] at hv2
          generalize plainF f = w' at *
          cases b
          · (((try simp (implicitDefEqProofs := false)); (try simp (implicitDefEqProofs := false) (disch := first | assumption | (try simp only [lens]); omega -splitDisjunctions))); all_goals try (repeat' ((first | ((with_reducible first | refine And.intro ?_ ?_ | refine Exists.intro ?_ ?_); first | omega | (simp <;> omega)) | (with_reducible refine spl (And.intro ?_ ?_) <;> intro _) | (refine CL.clo (hbg) ?_) | (refine CM.clo (hbg) ?_) | (refine CD.clo (hbg) ?_) | (refine CL.clo (hva) ?_) | (refine CM.clo (hva) ?_) | (refine CD.clo (hva) ?_)) <;> ((try simp (implicitDefEqProofs := false)); (try simp (implicitDefEqProofs := false) (disch := first | assumption | (try simp only [lens]); omega -splitDisjunctions))))))
            refine CL.giv [1] ?_
            (((try simp (implicitDefEqProofs := false) [h1, h2i]); (try simp (implicitDefEqProofs := false) (disch := first | assumption | (try simp only [lens]); omega -splitDisjunctions) [h1, h2i])); all_goals try (repeat' ((first | ((with_reducible first | refine And.intro ?_ ?_ | refine Exists.intro ?_ ?_); first | omega | (simp <;> omega)) | (with_reducible refine spl (And.intro ?_ ?_) <;> intro _) | (refine CL.clo (hpf) ?_) | (refine CM.clo (hpf) ?_) | (refine CD.clo (hpf) ?_) | (refine CL.clo (hw) ?_) | (refine CM.clo (hw) ?_) | (refine CD.clo (hw) ?_) | (refine CL.clo (hv1) ?_) | (refine CM.clo (hv1) ?_) | (refine CD.clo (hv1) ?_) | (refine CL.clo (ht) ?_) | (refine CM.clo (ht) ?_) | (refine CD.clo (ht) ?_) | (refine CL.clo (hv2) ?_) | (refine CM.clo (hv2) ?_) | (refine CD.clo (hv2) ?_)) <;> ((try simp (implicitDefEqProofs := false) [h1, h2i]); (try simp (implicitDefEqProofs := false) (disch := first | assumption | (try simp only [lens]); omega -splitDisjunctions) [h1, h2i])))))
          · (((try simp (implicitDefEqProofs := false)); (try simp (implicitDefEqProofs := false) (disch := first | assumption | (try simp only [lens]); omega -splitDisjunctions))); all_goals try (repeat' ((first | ((with_reducible first | refine And.intro ?_ ?_ | refine Exists.intro ?_ ?_); first | omega | (simp <;> omega)) | (with_reducible refine spl (And.intro ?_ ?_) <;> intro _) | (refine CL.clo (hbg) ?_) | (refine CM.clo (hbg) ?_) | (refine CD.clo (hbg) ?_) | (refine CL.clo (hva) ?_) | (refine CM.clo (hva) ?_) | (refine CD.clo (hva) ?_)) <;> ((try simp (implicitDefEqProofs := false)); (try simp (implicitDefEqProofs := false) (disch := first | assumption | (try simp only [lens]); omega -splitDisjunctions))))))
            refine CL.giv [1] ?_
            (((try simp (implicitDefEqProofs := false) [h1, h2i]); (try simp (implicitDefEqProofs := false) (disch := first | assumption | (try simp only [lens]); omega -splitDisjunctions) [h1, h2i])); all_goals try (repeat' ((first | ((with_reducible first | refine And.intro ?_ ?_ | refine Exists.intro ?_ ?_); first | omega | (simp <;> omega)) | (with_reducible refine spl (And.intro ?_ ?_) <;> intro _) | (refine CL.clo (hpf) ?_) | (refine CM.clo (hpf) ?_) | (refine CD.clo (hpf) ?_) | (refine CL.clo (hw) ?_) | (refine CM.clo (hw) ?_) | (refine CD.clo (hw) ?_) | (refine CL.clo (hv1) ?_) | (refine CM.clo (hv1) ?_) | (refine CD.clo (hv1) ?_) | (refine CL.clo (ht) ?_) | (refine CM.clo (ht) ?_) | (refine CD.clo (ht) ?_) | (refine CL.clo (hv2) ?_) | (refine CM.clo (hv2) ?_) | (refine CD.clo (hv2) ?_)) <;> ((try simp (implicitDefEqProofs := false) [h1, h2i]); (try simp (implicitDefEqProofs := false) (disch := first | assumption | (try simp only [lens]); omega -splitDisjunctions) [h1, h2i])))))
    · generalize plainF f = w at *
      (((try simp (implicitDefEqProofs := false)); (try simp (implicitDefEqProofs := false) (disch := first | assumption | (try simp only [lens]); omega -splitDisjunctions))); all_goals try (repeat' ((first | ((with_reducible first | refine And.intro ?_ ?_ | refine Exists.intro ?_ ?_); first | omega | (simp <;> omega)) | (with_reducible refine spl (And.intro ?_ ?_) <;> intro _) | (refine CL.clo (hbg) ?_) | (refine CM.clo (hbg) ?_) | (refine CD.clo (hbg) ?_) | (refine CL.clo (hva) ?_) | (refine CM.clo (hva) ?_) | (refine CD.clo (hva) ?_)) <;> ((try simp (implicitDefEqProofs := false)); (try simp (implicitDefEqProofs := false) (disch := first | assumption | (try simp only [lens]); omega -splitDisjunctions))))))
      refine CL.giv [1] ?_
      (((try simp (implicitDefEqProofs := false) [h1]); (try simp (implicitDefEqProofs := false) (disch := first | assumption | (try simp only [lens]); omega -splitDisjunctions) [h1])); all_goals try (repeat' ((first | ((with_reducible first | refine And.intro ?_ ?_ | refine Exists.intro ?_ ?_); first | omega | (simp <;> omega)) | (with_reducible refine spl (And.intro ?_ ?_) <;> intro _) | (refine CL.clo (hpf) ?_) | (refine CM.clo (hpf) ?_) | (refine CD.clo (hpf) ?_)) <;> ((try simp (implicitDefEqProofs := false) [h1]); (try simp (implicitDefEqProofs := false) (disch := first | assumption | (try simp only [lens]); omega -splitDisjunctions) [h1])))))
end Go.Proofs.Ytbmpmmbcfabeeaa
