/-
  The functions of package formula that print, copy and compare.
-/
import Derived.Test.YtliockncjdeloaaPvQg
import Derived.Test.YtliockncjdeloaaQFm
namespace Go.Proofs.Ytliockncjdeloaa
open Go Go.Pv
set_option linter.unusedVariables false
set_option linter.unusedSimpArgs false
set_option maxRecDepth 100000
set_option maxHeartbeats 4000000

theorem OkF.nine {N : ByteArray → Prop} {f : Fm} (h : OkF N f) : (∃ nm, N nm ∧ f = .mk 1 nm []) ∨ (∃ nm, f = .mk 2 nm []) ∨ (∃ nm, f = .mk 3 nm []) ∨ (∃ nm a, OkF N a ∧ f = .mk 4 nm [a]) ∨ (∃ nm a b, OkF N a ∧ OkF N b ∧ f = .mk 5 nm [a, b]) ∨
    (∃ nm a b, OkF N a ∧ OkF N b ∧ f = .mk 6 nm [a, b]) ∨ (∃ nm a b, OkF N a ∧ OkF N b ∧ f = .mk 7 nm [a, b]) ∨ (∃ nm a, OkF N a ∧ f = .mk 8 nm [a]) ∨ (∃ nm a, OkF N a ∧ f = .mk 9 nm [a]) := by
  cases h with
  | mk h hN g =>
    rename_i k nm l
    unfold kidsN at h
    have hk : k = 1 ∨ k = 2 ∨ k = 3 ∨ k = 4 ∨ k = 5 ∨ k = 6 ∨ k = 7 ∨ k = 8 ∨ k = 9 := by
      (repeat' split at h) <;> omega
    rcases hk with rfl | rfl | rfl | rfl | rfl | rfl | rfl | rfl | rfl <;> simp at h
    · subst h; exact .inl ⟨nm, hN rfl, rfl⟩
    · subst h; exact .inr (.inl ⟨nm, rfl⟩)
    · subst h; exact .inr (.inr (.inl ⟨nm, rfl⟩))
    · match l, h with | [a], _ => exact .inr (.inr (.inr (.inl ⟨nm, a, g a (by simp), rfl⟩)))
    · match l, h with | [a, b], _ => exact .inr (.inr (.inr (.inr (.inl ⟨nm, a, b, g a (by simp), g b (by simp), rfl⟩))))
    · match l, h with | [a, b], _ => exact .inr (.inr (.inr (.inr (.inr (.inl ⟨nm, a, b, g a (by simp), g b (by simp), rfl⟩)))))
    · match l, h with | [a, b], _ => exact .inr (.inr (.inr (.inr (.inr (.inr (.inl ⟨nm, a, b, g a (by simp), g b (by simp), rfl⟩))))))
    · match l, h with | [a], _ => exact .inr (.inr (.inr (.inr (.inr (.inr (.inr (.inl ⟨nm, a, g a (by simp), rfl⟩)))))))
    · match l, h with | [a], _ => exact .inr (.inr (.inr (.inr (.inr (.inr (.inr (.inr ⟨nm, a, g a (by simp), rfl⟩)))))))

def x68 : XC := .seq (.reg [⟨some 2,.assign (.const (.int .i64 0)),none⟩]) (.seq (.seq (.reg [⟨some 3,.move (.tmp 0),none⟩]) (.block 0 (.seq (.reg [⟨some 5,.binOp .eql 3 (.tmp 3) (.const (.int .i64 7)) 3,none⟩,⟨some 4,.assign (.tmp 5),none⟩]) (.cond (.tmp 4) (.seq (.reg [⟨some 2,.assign (.const (.int .i64 1)),none⟩]) (.ret)) (.seq (.reg [⟨some 7,.binOp .eql 3 (.tmp 3) (.const (.int .i64 6)) 3,none⟩,⟨some 6,.assign (.tmp 7),none⟩]) (.cond (.tmp 6) (.seq (.reg [⟨some 2,.assign (.const (.int .i64 2)),none⟩]) (.ret)) (.seq (.reg [⟨some 9,.binOp .eql 3 (.tmp 3) (.const (.int .i64 5)) 3,none⟩,⟨some 8,.assign (.tmp 9),none⟩]) (.cond (.tmp 8) (.seq (.reg [⟨some 2,.assign (.const (.int .i64 3)),none⟩]) (.ret)) (.skip))))))))) (.seq (.reg [⟨some 2,.assign (.const (.int .i64 4)),none⟩]) (.ret)))
@[simp] theorem x68_s {C : WC} {e : AE} {s : Store} {K : KS} : type_of% (@X_at C e s K _ _ x68.eq_1) := X_at x68.eq_1
def an68 : Ann := ⟨[], [], []⟩
def cx68 (P : Program) (m : Nat) : WC := ⟨P, m, an68⟩
@[simp] theorem cx68_a {P : Program} {m : Nat} : (cx68 P m).P = P ∧ (cx68 P m).m = m := ⟨rfl, rfl⟩
instance {P : Program} {m f : Nat} [h : EnT P f] : EnT (cx68 P m).P f := h
theorem chk68 : ∀ c, Try.f68.body = some c → chkC Try.f68.ntmps an68 c = true := by intro c h; obtain rfl := Option.some.inj h; decide +kernel
theorem op68 {args : List PV} {v : PV} (h : X (cx68 Try.prog 0) x68 (argsA 0 args) [] (.fin [.tmp 2] fun v1 s1 => deref s1 6 v1 = v)) (hl : args.length ≤ Try.f68.ntmps := by rw [Try.ntmps68]; simp) : CallOK Try.prog 68 args [] v [] :=
  callX (m := 0) (cx68 Try.prog 0) x68 rfl rfl (by kernel_rfl) Try.func68 rfl rfl hl mixed (chk68 _ rfl) (by rw [Try.results68]; exact h)

def x61 : XC := .seq (.reg [⟨some 2,.box 24 (.tmp 0),none⟩,⟨some 4,.assign (.const (.string ⟨#[]⟩)),none⟩]) (.seq (.reg [⟨some 5,.assign (.const (.string ⟨#[]⟩)),none⟩]) (.seq (.reg [⟨some 7,.fieldAddr 24 (.tmp 2) 0,none⟩,⟨some 8,.load 3 (.tmp 7),none⟩,⟨some 9,.call ⟨.value (.func 68),#[.tmp 8],#[3]⟩,none⟩,⟨some 6,.assign (.tmp 9),none⟩]) (.seq (.seq (.reg [⟨some 10,.fieldAddr 24 (.tmp 2) 0,none⟩,⟨some 11,.load 3 (.tmp 10),none⟩]) (.block 0 (.seq (.reg [⟨some 13,.binOp .eql 3 (.tmp 11) (.const (.int .i64 1)) 3,none⟩,⟨some 12,.assign (.tmp 13),none⟩]) (.cond (.tmp 12) (.reg [⟨some 14,.fieldAddr 24 (.tmp 2) 1,none⟩,⟨some 15,.load 9 (.tmp 14),none⟩,⟨some 5,.assign (.tmp 15),none⟩]) (.seq (.reg [⟨some 17,.binOp .eql 3 (.tmp 11) (.const (.int .i64 2)) 3,none⟩,⟨some 16,.assign (.tmp 17),none⟩]) (.cond (.tmp 16) (.reg [⟨some 5,.assign (.const (.string ⟨#[49]⟩)),none⟩]) (.seq (.reg [⟨some 19,.binOp .eql 3 (.tmp 11) (.const (.int .i64 3)) 3,none⟩,⟨some 18,.assign (.tmp 19),none⟩]) (.cond (.tmp 18) (.reg [⟨some 5,.assign (.const (.string ⟨#[48]⟩)),none⟩]) (.seq (.reg [⟨some 21,.binOp .eql 3 (.tmp 11) (.const (.int .i64 4)) 3,none⟩,⟨some 20,.assign (.tmp 21),none⟩]) (.cond (.tmp 20) (.reg [⟨some 22,.fieldAddr 24 (.tmp 2) 2,none⟩,⟨some 23,.load 22 (.tmp 22),none⟩,⟨some 24,.indexAddr 22 (.tmp 23) (.const (.int .i64 0)),none⟩,⟨some 25,.load 24 (.tmp 24),none⟩,⟨some 26,.call ⟨.value (.func 61),#[.tmp 25,.const (.int .i64 4)],#[24,3]⟩,none⟩,⟨some 27,.binOp .add 9 (.const (.string ⟨#[126]⟩)) (.tmp 26) 9,none⟩,⟨some 5,.assign (.tmp 27),none⟩]) (.seq (.reg [⟨some 29,.binOp .eql 3 (.tmp 11) (.const (.int .i64 8)) 3,none⟩,⟨some 28,.assign (.tmp 29),none⟩]) (.cond (.tmp 28) (.reg [⟨some 30,.fieldAddr 24 (.tmp 2) 2,none⟩,⟨some 31,.load 22 (.tmp 30),none⟩,⟨some 32,.indexAddr 22 (.tmp 31) (.const (.int .i64 0)),none⟩,⟨some 33,.load 24 (.tmp 32),none⟩,⟨some 34,.call ⟨.value (.func 61),#[.tmp 33,.const (.int .i64 4)],#[24,3]⟩,none⟩,⟨some 35,.binOp .add 9 (.const (.string ⟨#[91,93]⟩)) (.tmp 34) 9,none⟩,⟨some 5,.assign (.tmp 35),none⟩]) (.seq (.reg [⟨some 37,.binOp .eql 3 (.tmp 11) (.const (.int .i64 9)) 3,none⟩,⟨some 36,.assign (.tmp 37),none⟩]) (.cond (.tmp 36) (.reg [⟨some 38,.fieldAddr 24 (.tmp 2) 2,none⟩,⟨some 39,.load 22 (.tmp 38),none⟩,⟨some 40,.indexAddr 22 (.tmp 39) (.const (.int .i64 0)),none⟩,⟨some 41,.load 24 (.tmp 40),none⟩,⟨some 42,.call ⟨.value (.func 61),#[.tmp 41,.const (.int .i64 4)],#[24,3]⟩,none⟩,⟨some 43,.binOp .add 9 (.const (.string ⟨#[60,62]⟩)) (.tmp 42) 9,none⟩,⟨some 5,.assign (.tmp 43),none⟩]) (.seq (.reg [⟨some 45,.binOp .eql 3 (.tmp 11) (.const (.int .i64 5)) 3,none⟩,⟨some 44,.assign (.tmp 45),none⟩]) (.cond (.tmp 44) (.drawn 17 [⟨some 46,.fieldAddr 24 (.tmp 2) 2,none⟩,⟨some 47,.load 22 (.tmp 46),none⟩,⟨some 48,.indexAddr 22 (.tmp 47) (.const (.int .i64 0)),none⟩,⟨some 49,.load 24 (.tmp 48),none⟩,⟨some 50,.call ⟨.value (.func 61),#[.tmp 49,.const (.int .i64 3)],#[24,3]⟩,none⟩,⟨some 51,.binOp .add 9 (.tmp 50) (.const (.string ⟨#[32,38,32]⟩)) 9,none⟩,⟨some 52,.fieldAddr 24 (.tmp 2) 2,none⟩,⟨some 53,.load 22 (.tmp 52),none⟩,⟨some 54,.indexAddr 22 (.tmp 53) (.const (.int .i64 1)),none⟩,⟨some 55,.load 24 (.tmp 54),none⟩,⟨some 56,.call ⟨.value (.func 61),#[.tmp 55,.const (.int .i64 4)],#[24,3]⟩,none⟩,⟨some 57,.binOp .add 9 (.tmp 51) (.tmp 56) 9,none⟩,⟨some 5,.assign (.tmp 57),none⟩]) (.seq (.reg [⟨some 59,.binOp .eql 3 (.tmp 11) (.const (.int .i64 6)) 3,none⟩,⟨some 58,.assign (.tmp 59),none⟩]) (.cond (.tmp 58) (.drawn 19 [⟨some 60,.fieldAddr 24 (.tmp 2) 2,none⟩,⟨some 61,.load 22 (.tmp 60),none⟩,⟨some 62,.indexAddr 22 (.tmp 61) (.const (.int .i64 0)),none⟩,⟨some 63,.load 24 (.tmp 62),none⟩,⟨some 64,.call ⟨.value (.func 61),#[.tmp 63,.const (.int .i64 2)],#[24,3]⟩,none⟩,⟨some 65,.binOp .add 9 (.tmp 64) (.const (.string ⟨#[32,124,32]⟩)) 9,none⟩,⟨some 66,.fieldAddr 24 (.tmp 2) 2,none⟩,⟨some 67,.load 22 (.tmp 66),none⟩,⟨some 68,.indexAddr 22 (.tmp 67) (.const (.int .i64 1)),none⟩,⟨some 69,.load 24 (.tmp 68),none⟩,⟨some 70,.call ⟨.value (.func 61),#[.tmp 69,.const (.int .i64 3)],#[24,3]⟩,none⟩,⟨some 71,.binOp .add 9 (.tmp 65) (.tmp 70) 9,none⟩,⟨some 5,.assign (.tmp 71),none⟩]) (.seq (.reg [⟨some 73,.binOp .eql 3 (.tmp 11) (.const (.int .i64 7)) 3,none⟩,⟨some 72,.assign (.tmp 73),none⟩]) (.cond (.tmp 72) (.drawn 21 [⟨some 74,.fieldAddr 24 (.tmp 2) 2,none⟩,⟨some 75,.load 22 (.tmp 74),none⟩,⟨some 76,.indexAddr 22 (.tmp 75) (.const (.int .i64 0)),none⟩,⟨some 77,.load 24 (.tmp 76),none⟩,⟨some 78,.call ⟨.value (.func 61),#[.tmp 77,.const (.int .i64 2)],#[24,3]⟩,none⟩,⟨some 79,.binOp .add 9 (.tmp 78) (.const (.string ⟨#[32,45,62,32]⟩)) 9,none⟩,⟨some 80,.fieldAddr 24 (.tmp 2) 2,none⟩,⟨some 81,.load 22 (.tmp 80),none⟩,⟨some 82,.indexAddr 22 (.tmp 81) (.const (.int .i64 1)),none⟩,⟨some 83,.load 24 (.tmp 82),none⟩,⟨some 84,.call ⟨.value (.func 61),#[.tmp 83,.const (.int .i64 1)],#[24,3]⟩,none⟩,⟨some 85,.binOp .add 9 (.tmp 79) (.tmp 84) 9,none⟩,⟨some 5,.assign (.tmp 85),none⟩]) (.skip))))))))))))))))))))) (.seq (.seq (.reg [⟨some 86,.move (.tmp 6),none⟩,⟨some 87,.move (.tmp 1),none⟩,⟨some 88,.binOp .lss 3 (.tmp 86) (.tmp 87) 3,none⟩]) (.cond (.tmp 88) (.seq (.reg [⟨some 89,.move (.tmp 5),none⟩,⟨some 90,.binOp .add 9 (.const (.string ⟨#[40]⟩)) (.tmp 89) 9,none⟩,⟨some 91,.binOp .add 9 (.tmp 90) (.const (.string ⟨#[41]⟩)) 9,none⟩,⟨some 4,.assign (.tmp 91),none⟩]) (.ret)) (.skip))) (.seq (.reg [⟨some 92,.move (.tmp 5),none⟩,⟨some 4,.assign (.tmp 92),none⟩]) (.ret))))))
@[simp] theorem x61_s {C : WC} {e : AE} {s : Store} {K : KS} : type_of% (@X_at C e s K _ _ x61.eq_1) := X_at x61.eq_1
def an61 : Ann := ⟨[(17, .mix 11), (19, .mix 11), (21, .mix 11)], [], []⟩
def cx61 (P : Program) (m : Nat) : WC := ⟨P, m, an61⟩
@[simp] theorem cx61_a {P : Program} {m : Nat} : (cx61 P m).P = P ∧ (cx61 P m).m = m ∧ (cx61 P m).A.clsOf 17 = .mix 11 ∧ (cx61 P m).A.clsOf 19 = .mix 11 ∧ (cx61 P m).A.clsOf 21 = .mix 11 ∧ (cx61 P m).A.frzOf 17 = [] ∧ (cx61 P m).A.frzOf 19 = [] ∧ (cx61 P m).A.frzOf 21 = [] := ⟨rfl, rfl, rfl, rfl, rfl, rfl, rfl, rfl⟩
instance {P : Program} {m f : Nat} [h : EnT P f] : EnT (cx61 P m).P f := h
theorem chk61 : ∀ c, Try.f61.body = some c → chkC Try.f61.ntmps an61 c = true := by intro c h; obtain rfl := Option.some.inj h; decide +kernel
theorem op61 {args : List PV} {v : PV} (h : X (cx61 Try.prog 0) x61 (argsA 0 args) [] (.fin [.tmp 4] fun v1 s1 => deref s1 6 v1 = v)) (hl : args.length ≤ Try.f61.ntmps := by rw [Try.ntmps61]; simp) : CallOK Try.prog 61 args [] v [] :=
  callX (m := 0) (cx61 Try.prog 0) x61 rfl rfl (by kernel_rfl) Try.func61 rfl rfl hl mixed (chk61 _ rfl) (by rw [Try.results61]; exact h)

def levelN (k : Int) : Int := if k = 7 then 1 else if k = 6 then 2 else if k = 5 then 3 else 4
theorem level_formula (k : Int) : CallOK Try.prog 68 [.int .i64 k] [] (.int .i64 (levelN k)) [] := by
  refine op68 ?_
  ((try simp (implicitDefEqProofs := false) (disch := first | assumption | (try simp only [lens]); omega -splitDisjunctions)); all_goals try (repeat' ((first | ((with_reducible first | refine And.intro ?_ ?_ | refine Exists.intro ?_ ?_); first | omega | (simp <;> omega)) | (with_reducible refine spl (And.intro ?_ ?_) <;> intro _)) <;> (try simp (implicitDefEqProofs := false) (disch := first | assumption | (try simp only [lens]); omega -splitDisjunctions)))))
  all_goals simp_all [levelN]
def paren (s : ByteArray) (k least : Int) : ByteArray := if levelN k < least then (⟨#[40]⟩ : ByteArray) ++ s ++ (⟨#[41]⟩ : ByteArray) else s
mutual
/-- how a formula is printed -/
def said : Fm → Int → ByteArray
  | .mk k nm l => fun least =>
    let a := ((saids l)[0]?).getD fun _ => ⟨#[]⟩
    let b := ((saids l)[1]?).getD fun _ => ⟨#[]⟩
    paren (if k = 1 then nm else if k = 2 then ⟨#[49]⟩ else if k = 3 then ⟨#[48]⟩ else if k = 4 then (⟨#[126]⟩ : ByteArray) ++ a 4 else if k = 8 then (⟨#[91, 93]⟩ : ByteArray) ++ a 4 else if k = 9 then (⟨#[60, 62]⟩ : ByteArray) ++ a 4
      else if k = 5 then a 3 ++ (⟨#[32, 38, 32]⟩ : ByteArray) ++ b 4 else if k = 6 then a 2 ++ (⟨#[32, 124, 32]⟩ : ByteArray) ++ b 3 else if k = 7 then a 2 ++ (⟨#[32, 45, 62, 32]⟩ : ByteArray) ++ b 1 else ⟨#[]⟩) k least
def saids : List Fm → List (Int → ByteArray)
  | [] => []
  | f :: r => said f :: saids r
end
theorem paren_size (s : ByteArray) (k least : Int) : (paren s k least).size ≤ s.size + 2 := by
  unfold paren; split
  · simp only [ByteArray.size_append]; show 1 + s.size + 1 ≤ _; omega
  · omega
theorem pre_pos (f : Fm) : 1 ≤ (pre f).length := by rw [pre_eq]; simp
theorem pre_len0 (k : Int) (nm : ByteArray) : (pre (.mk k nm [])).length = 1 := by rw [pre_eq]; simp [pres_nil]
theorem pre_len1 (k : Int) (nm : ByteArray) (a : Fm) : (pre (.mk k nm [a])).length = 1 + (pre a).length := by rw [pre_eq]; simp [pres_nil, pres_cons]; omega
theorem pre_len2 (k : Int) (nm : ByteArray) (a b : Fm) : (pre (.mk k nm [a, b])).length = 1 + (pre a).length + (pre b).length := by rw [pre_eq]; simp [pres_nil, pres_cons]; omega
theorem said_size (f : Fm) (h : OkF (fun n => isNameB n = true) f) : ∀ least, (said f least).size ≤ 10 * (pre f).length := by
  induction f using Fm.ind with
  | h f ih =>
    intro least
    rcases h.nine with ⟨nm, hn, rfl⟩ | ⟨nm, rfl⟩ | ⟨nm, rfl⟩ | ⟨nm, a, ha, rfl⟩ | ⟨nm, a, b, ha, hb, rfl⟩ | ⟨nm, a, b, ha, hb, rfl⟩ | ⟨nm, a, b, ha, hb, rfl⟩ | ⟨nm, a, ha, rfl⟩ | ⟨nm, a, ha, rfl⟩
    all_goals refine Nat.le_trans (paren_size _ _ _) ?_
    · have : nm.size ≤ 8 := by simp [isNameB] at hn; omega
      simp [pre_len0]; omega
    · simp [pre_len0]
    · simp [pre_len0]
    · have := ih a (by simp) ha 4
      simp [saids, pre_len1]; omega
    · have := ih a (by simp) ha 3
      have := ih b (by simp) hb 4
      simp [saids, pre_len2]; omega
    · have := ih a (by simp) ha 2
      have := ih b (by simp) hb 3
      simp [saids, pre_len2]; omega
    · have := ih a (by simp) ha 2
      have := ih b (by simp) hb 1
      simp [saids, pre_len2]; omega
    · have := ih a (by simp) ha 4
      simp [saids, pre_len1]; omega
    · have := ih a (by simp) ha 4
      simp [saids, pre_len1]; omega
theorem said_formula (f : Fm) (hf : OkF (fun n => isNameB n = true) f) : (pre f).length ≤ 1000 → ∀ least : Int, CallOK Try.prog 61 [.agg (frm f), .int .i64 least] [] (.str (said f least)) [] := by
  induction f using Fm.ind with
  | h f ih =>
    intro hl least
    refine op61 ?_
    rcases hf.nine with ⟨nm, hn, rfl⟩ | ⟨nm, rfl⟩ | ⟨nm, rfl⟩ | ⟨nm, a, ha, rfl⟩ | ⟨nm, a, b, ha, hb, rfl⟩ | ⟨nm, a, b, ha, hb, rfl⟩ | ⟨nm, a, b, ha, hb, rfl⟩ | ⟨nm, a, ha, rfl⟩ | ⟨nm, a, ha, rfl⟩
    · have hs : nm.size ≤ 8 := by simp [isNameB] at hn; omega
      ((try simp (implicitDefEqProofs := false) (disch := first | assumption | (try simp only [lens]); omega -splitDisjunctions)); all_goals try (repeat' ((first | ((with_reducible first | refine And.intro ?_ ?_ | refine Exists.intro ?_ ?_); first | omega | (simp <;> omega)) | (with_reducible refine spl (And.intro ?_ ?_) <;> intro _) | (refine CL.clo (level_formula _) ?_) | (refine CM.clo (level_formula _) ?_) | (refine CD.clo (level_formula _) ?_)) <;> (try simp (implicitDefEqProofs := false) (disch := first | assumption | (try simp only [lens]); omega -splitDisjunctions)))))
      all_goals simp_all [said, paren]
      omega
    · ((try simp (implicitDefEqProofs := false) (disch := first | assumption | (try simp only [lens]); omega -splitDisjunctions)); all_goals try (repeat' ((first | ((with_reducible first | refine And.intro ?_ ?_ | refine Exists.intro ?_ ?_); first | omega | (simp <;> omega)) | (with_reducible refine spl (And.intro ?_ ?_) <;> intro _) | (refine CL.clo (level_formula _) ?_) | (refine CM.clo (level_formula _) ?_) | (refine CD.clo (level_formula _) ?_)) <;> (try simp (implicitDefEqProofs := false) (disch := first | assumption | (try simp only [lens]); omega -splitDisjunctions)))))
      all_goals simp_all [said, paren]
      all_goals (intros; omega)
    · ((try simp (implicitDefEqProofs := false) (disch := first | assumption | (try simp only [lens]); omega -splitDisjunctions)); all_goals try (repeat' ((first | ((with_reducible first | refine And.intro ?_ ?_ | refine Exists.intro ?_ ?_); first | omega | (simp <;> omega)) | (with_reducible refine spl (And.intro ?_ ?_) <;> intro _) | (refine CL.clo (level_formula _) ?_) | (refine CM.clo (level_formula _) ?_) | (refine CD.clo (level_formula _) ?_)) <;> (try simp (implicitDefEqProofs := false) (disch := first | assumption | (try simp only [lens]); omega -splitDisjunctions)))))
      all_goals simp_all [said, paren]
      all_goals (intros; omega)
    · rw [pre_len1] at hl
      have s1 := said_size a ha 4
      ((try simp (implicitDefEqProofs := false) (disch := first | assumption | (try simp only [lens]); omega -splitDisjunctions)); all_goals try (repeat' ((first | ((with_reducible first | refine And.intro ?_ ?_ | refine Exists.intro ?_ ?_); first | omega | (simp <;> omega)) | (with_reducible refine spl (And.intro ?_ ?_) <;> intro _) | (refine CL.clo (level_formula _) ?_) | (refine CM.clo (level_formula _) ?_) | (refine CD.clo (level_formula _) ?_) | (refine CL.clo (ih a (by simp) ha (by omega) _) ?_) | (refine CM.clo (ih a (by simp) ha (by omega) _) ?_) | (refine CD.clo (ih a (by simp) ha (by omega) _) ?_)) <;> (try simp (implicitDefEqProofs := false) (disch := first | assumption | (try simp only [lens]); omega -splitDisjunctions)))))
      all_goals simp_all [said, saids, paren]
      all_goals (intros; omega)
    · rw [pre_len2] at hl
      have s1 := said_size a ha 3
      have s2 := said_size b hb 4
      ((try simp (implicitDefEqProofs := false) (disch := first | assumption | (try simp only [lens]); omega -splitDisjunctions)); all_goals try (repeat' ((first | ((with_reducible first | refine And.intro ?_ ?_ | refine Exists.intro ?_ ?_); first | omega | (simp <;> omega)) | (with_reducible refine spl (And.intro ?_ ?_) <;> intro _) | (refine CL.clo (level_formula _) ?_) | (refine CM.clo (level_formula _) ?_) | (refine CD.clo (level_formula _) ?_) | (refine CL.clo (ih a (by simp) ha (by omega) _) ?_) | (refine CM.clo (ih a (by simp) ha (by omega) _) ?_) | (refine CD.clo (ih a (by simp) ha (by omega) _) ?_) | (refine CL.clo (ih b (by simp) hb (by omega) _) ?_) | (refine CM.clo (ih b (by simp) hb (by omega) _) ?_) | (refine CD.clo (ih b (by simp) hb (by omega) _) ?_)) <;> (try simp (implicitDefEqProofs := false) (disch := first | assumption | (try simp only [lens]); omega -splitDisjunctions)))))
      all_goals simp_all [said, saids, paren]
      all_goals (intros; omega)
    · rw [pre_len2] at hl
      have s1 := said_size a ha 2
      have s2 := said_size b hb 3
      ((try simp (implicitDefEqProofs := false) (disch := first | assumption | (try simp only [lens]); omega -splitDisjunctions)); all_goals try (repeat' ((first | ((with_reducible first | refine And.intro ?_ ?_ | refine Exists.intro ?_ ?_); first | omega | (simp <;> omega)) | (with_reducible refine spl (And.intro ?_ ?_) <;> intro _) | (refine CL.clo (level_formula _) ?_) | (refine CM.clo (level_formula _) ?_) | (refine CD.clo (level_formula _) ?_) | (refine CL.clo (ih a (by simp) ha (by omega) _) ?_) | (refine CM.clo (ih a (by simp) ha (by omega) _) ?_) | (refine CD.clo (ih a (by simp) ha (by omega) _) ?_) | (refine CL.clo (ih b (by simp) hb (by omega) _) ?_) | (refine CM.clo (ih b (by simp) hb (by omega) _) ?_) | (refine CD.clo (ih b (by simp) hb (by omega) _) ?_)) <;> (try simp (implicitDefEqProofs := false) (disch := first | assumption | (try simp only [lens]); omega -splitDisjunctions)))))
      all_goals simp_all [said, saids, paren]
      all_goals (intros; omega)
    · rw [pre_len2] at hl
      have s1 := said_size a ha 2
      have s2 := said_size b hb 1
      ((try simp (implicitDefEqProofs := false) (disch := first | assumption | (try simp only [lens]); omega -splitDisjunctions)); all_goals try (repeat' ((first | ((with_reducible first | refine And.intro ?_ ?_ | refine Exists.intro ?_ ?_); first | omega | (simp <;> omega)) | (with_reducible refine spl (And.intro ?_ ?_) <;> intro _) | (refine CL.clo (level_formula _) ?_) | (refine CM.clo (level_formula _) ?_) | (refine CD.clo (level_formula _) ?_) | (refine CL.clo (ih a (by simp) ha (by omega) _) ?_) | (refine CM.clo (ih a (by simp) ha (by omega) _) ?_) | (refine CD.clo (ih a (by simp) ha (by omega) _) ?_) | (refine CL.clo (ih b (by simp) hb (by omega) _) ?_) | (refine CM.clo (ih b (by simp) hb (by omega) _) ?_) | (refine CD.clo (ih b (by simp) hb (by omega) _) ?_)) <;> (try simp (implicitDefEqProofs := false) (disch := first | assumption | (try simp only [lens]); omega -splitDisjunctions)))))
      all_goals simp_all [said, saids, paren]
      all_goals (intros; omega)
    · rw [pre_len1] at hl
      have s1 := said_size a ha 4
      ((try simp (implicitDefEqProofs := false) (disch := first | assumption | (try simp only [lens]); omega -splitDisjunctions)); all_goals try (repeat' ((first | ((with_reducible first | refine And.intro ?_ ?_ | refine Exists.intro ?_ ?_); first | omega | (simp <;> omega)) | (with_reducible refine spl (And.intro ?_ ?_) <;> intro _) | (refine CL.clo (level_formula _) ?_) | (refine CM.clo (level_formula _) ?_) | (refine CD.clo (level_formula _) ?_) | (refine CL.clo (ih a (by simp) ha (by omega) _) ?_) | (refine CM.clo (ih a (by simp) ha (by omega) _) ?_) | (refine CD.clo (ih a (by simp) ha (by omega) _) ?_)) <;> (try simp (implicitDefEqProofs := false) (disch := first | assumption | (try simp only [lens]); omega -splitDisjunctions)))))
      all_goals simp_all [said, saids, paren]
      all_goals (intros; omega)
    · rw [pre_len1] at hl
      have s1 := said_size a ha 4
      ((try simp (implicitDefEqProofs := false) (disch := first | assumption | (try simp only [lens]); omega -splitDisjunctions)); all_goals try (repeat' ((first | ((with_reducible first | refine And.intro ?_ ?_ | refine Exists.intro ?_ ?_); first | omega | (simp <;> omega)) | (with_reducible refine spl (And.intro ?_ ?_) <;> intro _) | (refine CL.clo (level_formula _) ?_) | (refine CM.clo (level_formula _) ?_) | (refine CD.clo (level_formula _) ?_) | (refine CL.clo (ih a (by simp) ha (by omega) _) ?_) | (refine CM.clo (ih a (by simp) ha (by omega) _) ?_) | (refine CD.clo (ih a (by simp) ha (by omega) _) ?_)) <;> (try simp (implicitDefEqProofs := false) (disch := first | assumption | (try simp only [lens]); omega -splitDisjunctions)))))
      all_goals simp_all [said, saids, paren]
      all_goals (intros; omega)
def x47 : XC := .seq (.reg [⟨some 1,.box 24 (.tmp 0),none⟩,⟨some 2,.assign (.const (.string ⟨#[]⟩)),none⟩]) (.seq (.reg [⟨some 3,.load 24 (.tmp 1),none⟩,⟨some 4,.call ⟨.value (.func 61),#[.tmp 3,.const (.int .i64 1)],#[24,3]⟩,none⟩,⟨some 2,.assign (.tmp 4),none⟩]) (.ret))
@[simp] theorem x47_s {C : WC} {e : AE} {s : Store} {K : KS} : type_of% (@X_at C e s K _ _ x47.eq_1) := X_at x47.eq_1
def an47 : Ann := ⟨[], [], []⟩
def cx47 (P : Program) (m : Nat) : WC := ⟨P, m, an47⟩
@[simp] theorem cx47_a {P : Program} {m : Nat} : (cx47 P m).P = P ∧ (cx47 P m).m = m := ⟨rfl, rfl⟩
instance {P : Program} {m f : Nat} [h : EnT P f] : EnT (cx47 P m).P f := h
theorem chk47 : ∀ c, Try.f47.body = some c → chkC Try.f47.ntmps an47 c = true := by intro c h; obtain rfl := Option.some.inj h; decide +kernel
theorem op47 {args : List PV} {v : PV} (h : X (cx47 Try.prog 0) x47 (argsA 0 args) [] (.fin [.tmp 2] fun v1 s1 => deref s1 6 v1 = v)) (hl : args.length ≤ Try.f47.ntmps := by rw [Try.ntmps47]; simp) : CallOK Try.prog 47 args [] v [] :=
  callX (m := 0) (cx47 Try.prog 0) x47 rfl rfl (by kernel_rfl) Try.func47 rfl rfl hl mixed (chk47 _ rfl) (by rw [Try.results47]; exact h)

theorem Said_formula (f : Fm) (hf : OkF (fun n => isNameB n = true) f) (hl : (pre f).length ≤ 1000) : CallOK Try.prog 47 [.agg (frm f)] [] (.str (said f 1)) [] := by
  refine op47 ?_
  ((try simp (implicitDefEqProofs := false) (disch := first | assumption | (try simp only [lens]); omega -splitDisjunctions)); all_goals try (repeat' ((first | ((with_reducible first | refine And.intro ?_ ?_ | refine Exists.intro ?_ ?_); first | omega | (simp <;> omega)) | (with_reducible refine spl (And.intro ?_ ?_) <;> intro _) | (refine CL.clo (said_formula f hf hl _) ?_) | (refine CM.clo (said_formula f hf hl _) ?_) | (refine CD.clo (said_formula f hf hl _) ?_)) <;> (try simp (implicitDefEqProofs := false) (disch := first | assumption | (try simp only [lens]); omega -splitDisjunctions)))))
def x48_T1 : XC := .seq (.reg [⟨some 26,.load 24 (.tmp 3),none⟩,⟨none,.store 24 (.tmp 2) (.tmp 26),none⟩]) (.ret)
def x48_L0 : XC := .seq (.reg [⟨some 15,.binOp .lss 3 (.tmp 14) (.tmp 13) 3,none⟩]) (.seq (.cond (.tmp 15) (.skip) (.exit 0)) (.seq (.block 1 (.seq (.reg [⟨some 16,.indexAddr 22 (.tmp 12) (.tmp 14),none⟩,⟨some 17,.load 24 (.tmp 16),none⟩,⟨some 5,.alloc 24,none⟩,⟨none,.store 24 (.tmp 5) (.tmp 17),none⟩]) (.drawn 5 [⟨some 18,.fieldAddr 24 (.tmp 3) 2,none⟩,⟨some 19,.load 22 (.tmp 18),none⟩,⟨some 20,.load 24 (.tmp 5),none⟩,⟨some 21,.call ⟨.value (.func 48),#[.tmp 20],#[24]⟩,none⟩,⟨some 22,.buildSlice 22 1 #[(0,.tmp 21)],none⟩,⟨some 23,.call ⟨.builtin .append,#[.tmp 19,.tmp 22],#[22,22]⟩,none⟩,⟨some 24,.fieldAddr 24 (.tmp 3) 2,none⟩,⟨none,.store 22 (.tmp 24) (.tmp 23),none⟩]))) (.reg [⟨some 25,.binOp .add 3 (.tmp 14) (.const (.int .i64 1)) 3,none⟩,⟨some 14,.move (.tmp 25),none⟩])))
def x48 : XC := .seq (.reg [⟨some 1,.box 24 (.tmp 0),none⟩,⟨some 2,.alloc 24,none⟩]) (.seq (.reg [⟨some 6,.fieldAddr 24 (.tmp 1) 0,none⟩,⟨some 7,.load 3 (.tmp 6),none⟩,⟨some 8,.fieldAddr 24 (.tmp 1) 1,none⟩,⟨some 9,.load 9 (.tmp 8),none⟩,⟨some 10,.build 24 #[(0,.tmp 7),(1,.tmp 9)],none⟩,⟨some 3,.alloc 24,none⟩,⟨none,.store 24 (.tmp 3) (.tmp 10),none⟩]) (.seq (.seq (.reg [⟨some 11,.fieldAddr 24 (.tmp 1) 2,none⟩,⟨some 12,.load 22 (.tmp 11),none⟩,⟨some 13,.call ⟨.builtin .len,#[.tmp 12],#[22]⟩,none⟩,⟨some 14,.move (.const (.int .i64 0)),none⟩]) (.bloop 0 x48_L0)) (x48_T1)))
@[simp] theorem x48_s {C : WC} {e : AE} {s : Store} {K : KS} : type_of% (@X_at C e s K _ _ x48_T1.eq_1) ∧ type_of% (@X_at C e s K _ _ x48_L0.eq_1) ∧ type_of% (@X_at C e s K _ _ x48.eq_1) := ⟨X_at x48_T1.eq_1, X_at x48_L0.eq_1, X_at x48.eq_1⟩
def an48 : Ann := ⟨[(5, .mix 5)], [(0, [(3, some 2, 3)], [2, 3, 12, 13, 14], [2, 3])], []⟩
def cx48 (P : Program) (m : Nat) : WC := ⟨P, m, an48⟩
@[simp] theorem cx48_a {P : Program} {m : Nat} : (cx48 P m).P = P ∧ (cx48 P m).m = m ∧ (cx48 P m).A.clsOf 5 = .mix 5 ∧ (cx48 P m).A.frzOf 5 = [] ∧ (cx48 P m).A.loopOf 0 = ([(3, some 2, 3)], [2, 3, 12, 13, 14], [2, 3]) := ⟨rfl, rfl, rfl, rfl, rfl⟩
instance {P : Program} {m f : Nat} [h : EnT P f] : EnT (cx48 P m).P f := h
theorem chk48 : ∀ c, Try.f48.body = some c → chkC Try.f48.ntmps an48 c = true := by intro c h; obtain rfl := Option.some.inj h; decide +kernel
theorem os48 {args : List PV} {v : PV} (h : X (cx48 Try.prog 0) x48 (argsA 0 args) [] (.fin [.cell 2 24] fun v1 s1 => softV (deref s1 6 v1) = v)) (hl : args.length ≤ Try.f48.ntmps := by rw [Try.ntmps48]; simp) : CallOK Try.prog 48 args [] v [] :=
  callXF (m := 0) (cx48 Try.prog 0) x48 rfl rfl (by kernel_rfl) Try.func48 rfl rfl hl mixed (chk48 _ rfl) (by rw [Try.results48]; exact h)

theorem take_snoc {α : Type} {l : List α} {i : Nat} (h : i < l.length) : l.take (i + 1) = l.take i ++ [l[i]] := by
  rw [List.take_add_one, List.getElem?_eq_getElem h]; rfl
theorem OkF.kids_le {N : ByteArray → Prop} {f : Fm} (h : OkF N f) : f.kids.length ≤ 2 := by
  rcases h.nine with ⟨nm, hn, rfl⟩ | ⟨nm, rfl⟩ | ⟨nm, rfl⟩ | ⟨nm, a, ha, rfl⟩ | ⟨nm, a, b, ha, hb, rfl⟩ | ⟨nm, a, b, ha, hb, rfl⟩ | ⟨nm, a, b, ha, hb, rfl⟩ | ⟨nm, a, ha, rfl⟩ | ⟨nm, a, ha, rfl⟩ <;> simp
theorem OkF.kid {N : ByteArray → Prop} {f g : Fm} (h : OkF N f) (hg : g ∈ f.kids) : OkF N g := by
  cases h with | mk a b c => exact c g hg
theorem Copy_formula (f : Fm) (hf : OkF (fun n => isNameB n = true) f) : CallOK Try.prog 48 [.agg (frm f)] [] (.agg (frm f)) [] := by
  induction f using Fm.ind with
  | h f ih =>
    refine os48 ?_
    ((try simp (implicitDefEqProofs := false) (disch := first | assumption | (try simp only [lens]); omega -splitDisjunctions)); all_goals try (repeat' ((first | ((with_reducible first | refine And.intro ?_ ?_ | refine Exists.intro ?_ ?_); first | omega | (simp <;> omega)) | (with_reducible refine spl (And.intro ?_ ?_) <;> intro _)) <;> (try simp (implicitDefEqProofs := false) (disch := first | assumption | (try simp only [lens]); omega -splitDisjunctions)))))
    refine W_of fun Q hQ => ?_
    have main : ∀ n i, i + n = f.kids.length → Q [(2, .ptr 0 0 0), (3, .ptr 1 0 0), (12, .list (f.kids.map frm)), (13, .int .i64 (f.kids.length : Int)), (14, .int .i64 (i : Int))]
        [.rows 3 [[.int .i64 0, .str ⟨#[]⟩, .nilsl]], .rows 3 [[.int .i64 f.kind, .str f.name, .sl 2 0 i]], .rows 3 ((f.kids.take i).map frm)] := by
      intro n
      induction n with
      | zero =>
        intro i hi
        apply hQ
        ((try simp (implicitDefEqProofs := false) (disch := first | assumption | (try simp only [lens]); omega -splitDisjunctions)); all_goals try (repeat' ((first | ((with_reducible first | refine And.intro ?_ ?_ | refine Exists.intro ?_ ?_); first | omega | (simp <;> omega)) | (with_reducible refine spl (And.intro ?_ ?_) <;> intro _)) <;> (try simp (implicitDefEqProofs := false) (disch := first | assumption | (try simp only [lens]); omega -splitDisjunctions)))))
        rw [frm_eq]
        simp [List.take_of_length_le, show f.kids.length ≤ i by omega]
      | succ n ihn =>
        intro i hi
        apply hQ
        have := hf.kids_le
        ((try simp (implicitDefEqProofs := false) (disch := first | assumption | (try simp only [lens]); omega -splitDisjunctions)); all_goals try (repeat' ((first | ((with_reducible first | refine And.intro ?_ ?_ | refine Exists.intro ?_ ?_); first | omega | (simp <;> omega)) | (with_reducible refine spl (And.intro ?_ ?_) <;> intro _) | (refine CL.clo (ih _ (List.getElem_mem _) (hf.kid (List.getElem_mem _))) ?_) | (refine CM.clo (ih _ (List.getElem_mem _) (hf.kid (List.getElem_mem _))) ?_) | (refine CD.clo (ih _ (List.getElem_mem _) (hf.kid (List.getElem_mem _))) ?_)) <;> (try simp (implicitDefEqProofs := false) (disch := first | assumption | (try simp only [lens]); omega -splitDisjunctions)))))
        refine at2 (ihn (i + 1) (by omega)) ?_ ?_
        · simp
        · simp only [List.map_take]
          rw [take_snoc (l := f.kids.map frm) (i := i) (by simp; omega)]; simp only [List.getElem_map, List.take_take, Nat.min_self]
    refine at2 (main _ 0 (Nat.zero_add _)) ?_ ?_ <;> simp
def x62_L0 : XC := .seq (.reg [⟨some 18,.binOp .lss 3 (.tmp 17) (.tmp 16) 3,none⟩]) (.seq (.cond (.tmp 18) (.skip) (.exit 0)) (.seq (.block 1 (.seq (.reg [⟨some 19,.move (.tmp 17),none⟩,⟨some 20,.indexAddr 22 (.tmp 15) (.tmp 17),none⟩,⟨some 21,.load 24 (.tmp 20),none⟩,⟨some 8,.alloc 24,none⟩,⟨some 7,.assign (.tmp 19),none⟩,⟨none,.store 24 (.tmp 8) (.tmp 21),none⟩]) (.seq (.reg [⟨some 22,.move (.tmp 1),none⟩,⟨some 23,.move (.tmp 7),none⟩,⟨some 24,.indexAddr 22 (.tmp 22) (.tmp 23),none⟩,⟨some 25,.load 24 (.tmp 24),none⟩,⟨some 9,.alloc 24,none⟩,⟨none,.store 24 (.tmp 9) (.tmp 25),none⟩]) (.seq (.reg [⟨some 26,.move (.tmp 2),none⟩,⟨some 27,.load 24 (.tmp 8),none⟩,⟨some 28,.load 24 (.tmp 9),none⟩,⟨some 29,.call ⟨.value (.tmp 26),#[.tmp 27,.tmp 28],#[24,24]⟩,none⟩,⟨some 30,.unOp .not 4 (.tmp 29),none⟩]) (.cond (.tmp 30) (.seq (.reg [⟨some 6,.assign (.const (.bool false)),none⟩]) (.ret)) (.skip)))))) (.reg [⟨some 31,.binOp .add 3 (.tmp 17) (.const (.int .i64 1)) 3,none⟩,⟨some 17,.move (.tmp 31),none⟩])))
def x62 : XC := .seq (.reg [⟨some 6,.assign (.const (.bool false)),none⟩]) (.seq (.seq (.reg [⟨some 10,.move (.tmp 0),none⟩,⟨some 11,.call ⟨.builtin .len,#[.tmp 10],#[22]⟩,none⟩,⟨some 12,.move (.tmp 1),none⟩,⟨some 13,.call ⟨.builtin .len,#[.tmp 12],#[22]⟩,none⟩,⟨some 14,.binOp .neq 3 (.tmp 11) (.tmp 13) 3,none⟩]) (.cond (.tmp 14) (.seq (.reg [⟨some 6,.assign (.const (.bool false)),none⟩]) (.ret)) (.skip))) (.seq (.seq (.reg [⟨some 15,.move (.tmp 0),none⟩,⟨some 16,.call ⟨.builtin .len,#[.tmp 15],#[22]⟩,none⟩,⟨some 17,.move (.const (.int .i64 0)),none⟩]) (.bloop 0 x62_L0)) (.seq (.reg [⟨some 6,.assign (.const (.bool true)),none⟩]) (.ret))))
@[simp] theorem x62_s {C : WC} {e : AE} {s : Store} {K : KS} : type_of% (@X_at C e s K _ _ x62_L0.eq_1) ∧ type_of% (@X_at C e s K _ _ x62.eq_1) := ⟨X_at x62_L0.eq_1, X_at x62.eq_1⟩
def an62 : Ann := ⟨[], [(0, [], [1, 2, 15, 16, 17], [6])], []⟩
def cx62 (P : Program) (m : Nat) : WC := ⟨P, m, an62⟩
@[simp] theorem cx62_a {P : Program} {m : Nat} : (cx62 P m).P = P ∧ (cx62 P m).m = m ∧ (cx62 P m).A.loopOf 0 = ([], [1, 2, 15, 16, 17], [6]) := ⟨rfl, rfl, rfl⟩
instance {P : Program} {m f : Nat} [h : EnT P f] : EnT (cx62 P m).P f := h
theorem chk62 : ∀ c, Try.f62.body = some c → chkC Try.f62.ntmps an62 c = true := by intro c h; obtain rfl := Option.some.inj h; decide +kernel
theorem op62 {args : List PV} {v : PV} (h : X (cx62 Try.prog 0) x62 (argsA 0 args) [] (.fin [.tmp 6] fun v1 s1 => deref s1 6 v1 = v)) (hl : args.length ≤ Try.f62.ntmps := by rw [Try.ntmps62]; simp) : CallOK Try.prog 62 args [] v [] :=
  callX (m := 0) (cx62 Try.prog 0) x62 rfl rfl (by kernel_rfl) Try.func62 rfl rfl hl mixed (chk62 _ rfl) (by rw [Try.results62]; exact h)

/-- two lists of formulas, place by place -/
def eqL (r : Fm → Fm → Bool) : List Fm → List Fm → Bool
  | [], [] => true
  | a :: xs, b :: bs => r a b && eqL r xs bs
  | _, _ => false
theorem eqL_len {r : Fm → Fm → Bool} : ∀ {xs bs : List Fm}, xs.length ≠ bs.length → eqL r xs bs = false
  | [], [], h => absurd rfl h
  | [], _ :: _, _ => rfl
  | _ :: _, [], _ => rfl
  | a :: xs, b :: bs, h => by rw [eqL, eqL_len (xs := xs) (bs := bs) (by simpa using h), Bool.and_false]
theorem eqL_drop {r : Fm → Fm → Bool} {xs bs : List Fm} {i : Nat} (h : i < xs.length) (h' : i < bs.length) : eqL r (xs.drop i) (bs.drop i) = (r xs[i] bs[i] && eqL r (xs.drop (i + 1)) (bs.drop (i + 1))) := by
  rw [List.drop_eq_getElem_cons h, List.drop_eq_getElem_cons h', eqL]
theorem EqualFunc_formula (xs bs : List Fm) (fid : Nat) [EnT Try.prog fid] (r : Fm → Fm → Bool) (h : ∀ a ∈ xs, ∀ b ∈ bs, CallOK Try.prog fid [.agg (frm a), .agg (frm b)] [] (.bool (r a b)) []) :
    CallOK Try.prog 62 [.list (xs.map frm), .list (bs.map frm), .fn (.func fid) [] []] [] (.bool (eqL r xs bs)) [] := by
  refine op62 ?_
  ((try simp (implicitDefEqProofs := false) (disch := first | assumption | (try simp only [lens]); omega -splitDisjunctions)); all_goals try (repeat' ((first | ((with_reducible first | refine And.intro ?_ ?_ | refine Exists.intro ?_ ?_); first | omega | (simp <;> omega)) | (with_reducible refine spl (And.intro ?_ ?_) <;> intro _)) <;> (try simp (implicitDefEqProofs := false) (disch := first | assumption | (try simp only [lens]); omega -splitDisjunctions)))))
  · rw [eqL_len (by omega)]
  · refine W_of fun Q hQ => ?_
    have main : ∀ n i, i + n = xs.length → eqL r xs bs = eqL r (xs.drop i) (bs.drop i) → Q [(1, .list (bs.map frm)), (2, .fn (.func fid) [] []), (15, .list (xs.map frm)), (16, .int .i64 (xs.length : Int)), (17, .int .i64 (i : Int))] [] := by
      intro n
      induction n with
      | zero =>
        intro i hi he
        apply hQ
        ((try simp (implicitDefEqProofs := false) (disch := first | assumption | (try simp only [lens]); omega -splitDisjunctions)); all_goals try (repeat' ((first | ((with_reducible first | refine And.intro ?_ ?_ | refine Exists.intro ?_ ?_); first | omega | (simp <;> omega)) | (with_reducible refine spl (And.intro ?_ ?_) <;> intro _)) <;> (try simp (implicitDefEqProofs := false) (disch := first | assumption | (try simp only [lens]); omega -splitDisjunctions)))))
        rw [he, List.drop_of_length_le (by omega), List.drop_of_length_le (by omega)]; rfl
      | succ n ih =>
        intro i hi he
        apply hQ
        rw [eqL_drop (by omega) (by omega)] at he
        ((try simp (implicitDefEqProofs := false) (disch := first | assumption | (try simp only [lens]); omega -splitDisjunctions)); all_goals try (repeat' ((first | ((with_reducible first | refine And.intro ?_ ?_ | refine Exists.intro ?_ ?_); first | omega | (simp <;> omega)) | (with_reducible refine spl (And.intro ?_ ?_) <;> intro _) | (refine CL.clo (h _ (List.getElem_mem _) _ (List.getElem_mem _)) ?_) | (refine CM.clo (h _ (List.getElem_mem _) _ (List.getElem_mem _)) ?_) | (refine CD.clo (h _ (List.getElem_mem _) _ (List.getElem_mem _)) ?_)) <;> (try simp (implicitDefEqProofs := false) (disch := first | assumption | (try simp only [lens]); omega -splitDisjunctions)))))
        · rw [he]; simp_all
        · refine at2 (ih (i + 1) (by omega) ?_) ?_ ?_
          · rw [he]; simp_all
          · simp
          · rfl
    refine at2 (main _ 0 (Nat.zero_add _) rfl) ?_ ?_ <;> simp
def x51 : XC := .seq (.reg [⟨some 2,.box 24 (.tmp 0),none⟩,⟨some 3,.box 24 (.tmp 1),none⟩,⟨some 4,.assign (.const (.bool false)),none⟩]) (.seq (.reg [⟨some 5,.fieldAddr 24 (.tmp 2) 0,none⟩,⟨some 6,.load 3 (.tmp 5),none⟩,⟨some 7,.fieldAddr 24 (.tmp 3) 0,none⟩,⟨some 8,.load 3 (.tmp 7),none⟩,⟨some 9,.binOp .eql 3 (.tmp 6) (.tmp 8) 3,none⟩,⟨some 10,.move (.tmp 9),none⟩,⟨some 11,.fieldAddr 24 (.tmp 2) 1,some (some 10,true)⟩,⟨some 12,.load 9 (.tmp 11),some (some 10,true)⟩,⟨some 13,.fieldAddr 24 (.tmp 3) 1,some (some 10,true)⟩,⟨some 14,.load 9 (.tmp 13),some (some 10,true)⟩,⟨some 15,.binOp .eql 9 (.tmp 12) (.tmp 14) 9,some (some 10,true)⟩,⟨some 16,.pick (.tmp 10) (.tmp 15) (.const (.bool false)),none⟩,⟨some 17,.move (.tmp 16),none⟩,⟨some 18,.fieldAddr 24 (.tmp 2) 2,some (some 17,true)⟩,⟨some 19,.load 22 (.tmp 18),some (some 17,true)⟩,⟨some 20,.fieldAddr 24 (.tmp 3) 2,some (some 17,true)⟩,⟨some 21,.load 22 (.tmp 20),some (some 17,true)⟩,⟨some 22,.call ⟨.value (.func 62),#[.tmp 19,.tmp 21,.func 51],#[22,22,39]⟩,some (some 17,true)⟩,⟨some 23,.pick (.tmp 17) (.tmp 22) (.const (.bool false)),none⟩,⟨some 4,.assign (.tmp 23),none⟩]) (.ret))
@[simp] theorem x51_s {C : WC} {e : AE} {s : Store} {K : KS} : type_of% (@X_at C e s K _ _ x51.eq_1) := X_at x51.eq_1
def an51 : Ann := ⟨[], [], []⟩
def cx51 (P : Program) (m : Nat) : WC := ⟨P, m, an51⟩
@[simp] theorem cx51_a {P : Program} {m : Nat} : (cx51 P m).P = P ∧ (cx51 P m).m = m := ⟨rfl, rfl⟩
instance {P : Program} {m f : Nat} [h : EnT P f] : EnT (cx51 P m).P f := h
theorem chk51 : ∀ c, Try.f51.body = some c → chkC Try.f51.ntmps an51 c = true := by intro c h; obtain rfl := Option.some.inj h; decide +kernel
theorem op51 {args : List PV} {v : PV} (h : X (cx51 Try.prog 0) x51 (argsA 0 args) [] (.fin [.tmp 4] fun v1 s1 => deref s1 6 v1 = v)) (hl : args.length ≤ Try.f51.ntmps := by rw [Try.ntmps51]; simp) : CallOK Try.prog 51 args [] v [] :=
  callX (m := 0) (cx51 Try.prog 0) x51 rfl rfl (by kernel_rfl) Try.func51 rfl rfl hl mixed (chk51 _ rfl) (by rw [Try.results51]; exact h)

noncomputable def sameB (f g : Fm) : Bool := @decide (f = g) (Classical.propDecidable _)
theorem sameB_iff {f g : Fm} : sameB f g = true ↔ f = g := by simp [sameB]
theorem eqL_same : ∀ xs bs : List Fm, eqL sameB xs bs = true ↔ xs = bs
  | [], [] => by simp [eqL]
  | [], _ :: _ => by simp [eqL]
  | _ :: _, [] => by simp [eqL]
  | a :: xs, b :: bs => by simp [eqL, sameB_iff, eqL_same xs bs]
theorem sameB_eq (f g : Fm) : sameB f g = (decide (f.kind = g.kind) && decide (f.name = g.name) && eqL sameB f.kids g.kids) := by
  rw [Bool.eq_iff_iff, sameB_iff, Bool.and_eq_true, Bool.and_eq_true, decide_eq_true_iff, decide_eq_true_iff, eqL_same]
  cases f; cases g
  simp [and_assoc]
theorem Same_formula (f : Fm) : ∀ g : Fm, CallOK Try.prog 51 [.agg (frm f), .agg (frm g)] [] (.bool (sameB f g)) [] := by
  induction f using Fm.ind with
  | h f ih =>
    intro g
    refine op51 ?_
    ((try simp (implicitDefEqProofs := false) (disch := first | assumption | (try simp only [lens]); omega -splitDisjunctions)); all_goals try (repeat' ((first | ((with_reducible first | refine And.intro ?_ ?_ | refine Exists.intro ?_ ?_); first | omega | (simp <;> omega)) | (with_reducible refine spl (And.intro ?_ ?_) <;> intro _) | (refine CL.clo (EqualFunc_formula f.kids g.kids 51 sameB (fun a ha b _ => ih a ha b)) ?_) | (refine CM.clo (EqualFunc_formula f.kids g.kids 51 sameB (fun a ha b _ => ih a ha b)) ?_) | (refine CD.clo (EqualFunc_formula f.kids g.kids 51 sameB (fun a ha b _ => ih a ha b)) ?_)) <;> (try simp (implicitDefEqProofs := false) (disch := first | assumption | (try simp only [lens]); omega -splitDisjunctions)))))
    all_goals (rw [sameB_eq]; simp_all)
end Go.Proofs.Ytliockncjdeloaa
