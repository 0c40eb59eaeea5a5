/-
  sequentlaw.TruthValues, told without memory.
-/
import Derived.Test.YtbmpmmbcfabeeaaTrK
namespace Go.Proofs.Ytbmpmmbcfabeeaa
open Go Go.Pv
set_option linter.unusedVariables false
set_option linter.unusedSimpArgs false
set_option maxRecDepth 100000
set_option maxHeartbeats 4000000

/-- the first that is not, or -1 -/
def firstI (l : List Bool) : Int := match fstF l with
  | some j => (j : Int)
  | none => -1
theorem firstI_snoc (l : List Bool) (b : Bool) : firstI (l ++ [b]) = if firstI l < 0 ∧ b = false then (l.length : Int) else firstI l := by
  unfold firstI fstF
  rw [List.findIdx?_append]
  cases h : l.findIdx? (fun b => !b) with
  | some j =>
    simp only [Option.some_or]
    rw [if_neg (fun g => by have := g.1; omega)]
  | none =>
    cases b with
    | true => simp
    | false => simp
theorem firstI_bounds (l : List Bool) : -1 ≤ firstI l ∧ firstI l < l.length := by
  unfold firstI fstF
  cases h : l.findIdx? (fun b => !b) with
  | some j => have := (List.findIdx?_eq_some_iff_getElem.1 h).1; simp only; omega
  | none => simp only; omega
theorem plain_chkW {f : Fm} (h : (plainF f).1 = 0) : (formulaCheck f).1 = 0 := by
  have := (plainF_iff f).1 h
  exact (formulaCheck_iff f).2 ⟨this.1.1, this.2⟩
def x45_L0 : XC := .seq (.seq (.reg [⟨some 11,.move (.tmp 5),none⟩,⟨some 12,.move (.tmp 0),none⟩,⟨some 13,.call ⟨.builtin .len,#[.tmp 12],#[46]⟩,none⟩,⟨some 14,.binOp .lss 3 (.tmp 11) (.tmp 13) 3,none⟩]) (.cond (.tmp 14) (.skip) (.exit 0))) (.seq (.block 1 (.seq (.drawn 6 [⟨some 17,.move (.tmp 0),none⟩,⟨some 18,.move (.tmp 5),none⟩,⟨some 19,.indexAddr 46 (.tmp 17) (.tmp 18),none⟩,⟨some 20,.load 4 (.tmp 19),none⟩,⟨some 21,.move (.tmp 1),none⟩,⟨some 22,.move (.tmp 5),none⟩,⟨some 23,.indexAddr 46 (.tmp 21) (.tmp 22),none⟩,⟨some 24,.load 4 (.tmp 23),none⟩,⟨some 25,.binOp .neq 4 (.tmp 20) (.tmp 24) 4,none⟩]) (.cond (.tmp 25) (.seq (.reg [⟨some 4,.assign (.const (.bool false)),none⟩]) (.ret)) (.skip)))) (.reg [⟨some 15,.move (.tmp 5),none⟩,⟨some 16,.binOp .add 3 (.tmp 15) (.const (.int .i64 1)) 3,none⟩,⟨some 5,.assign (.tmp 16),none⟩]))
def x45 : XC := .seq (.reg [⟨some 4,.assign (.const (.bool false)),none⟩]) (.seq (.seq (.reg [⟨some 6,.move (.tmp 0),none⟩,⟨some 7,.call ⟨.builtin .len,#[.tmp 6],#[46]⟩,none⟩,⟨some 8,.move (.tmp 1),none⟩,⟨some 9,.call ⟨.builtin .len,#[.tmp 8],#[46]⟩,none⟩,⟨some 10,.binOp .neq 3 (.tmp 7) (.tmp 9) 3,none⟩]) (.cond (.tmp 10) (.seq (.reg [⟨some 4,.assign (.const (.bool false)),none⟩]) (.ret)) (.skip))) (.seq (.seq (.reg [⟨some 5,.assign (.const (.int .i64 0)),none⟩]) (.bloop 0 x45_L0)) (.seq (.reg [⟨some 4,.assign (.const (.bool true)),none⟩]) (.ret))))
@[simp] theorem x45_s {C : WC} {e : AE} {s : Store} {K : KS} : type_of% (@X_at C e s K _ _ x45_L0.eq_1) ∧ type_of% (@X_at C e s K _ _ x45.eq_1) := ⟨X_at x45_L0.eq_1, X_at x45.eq_1⟩
def an45 : Ann := ⟨[], [(0, [], [0, 1, 5], [4])], []⟩
def cx45 (P : Program) (m : Nat) : WC := ⟨P, m, an45⟩
@[simp] theorem cx45_a {P : Program} {m : Nat} : (cx45 P m).P = P ∧ (cx45 P m).m = m ∧ (cx45 P m).A.clsOf 6 = .draw ∧ (cx45 P m).A.frzOf 6 = [] ∧ (cx45 P m).A.loopOf 0 = ([], [0, 1, 5], [4]) := ⟨rfl, rfl, rfl, rfl, rfl⟩
instance {P : Program} {m f : Nat} [h : EnT P f] : EnT (cx45 P m).P f := h
theorem chk45 : ∀ c, Try.f45.body = some c → chkC Try.f45.ntmps an45 c = true := by intro c h; obtain rfl := Option.some.inj h; decide +kernel
theorem op45 {args : List PV} {v : PV} (h : X (cx45 Try.prog 0) x45 (argsA 0 args) [] (.fin [.tmp 4] fun v1 s1 => deref s1 6 v1 = v)) (hl : args.length ≤ Try.f45.ntmps := by rw [Try.ntmps45]; simp) : CallOK Try.prog 45 args [] v [] :=
  callX (m := 0) (cx45 Try.prog 0) x45 rfl rfl (by kernel_rfl) Try.func45 rfl rfl hl mixed (chk45 _ rfl) (by rw [Try.results45]; exact h)

theorem bitsE_law (l : List Bool) : CallOK Try.prog 45 [.list (l.map boolRow), .list (l.map boolRow)] [] (.bool true) [] := by
  refine op45 ?_
  (((try simp (implicitDefEqProofs := false)); (try simp (implicitDefEqProofs := false) (disch := first | assumption | (try simp only [lens]); omega -splitDisjunctions))); all_goals try (repeat' ((first | ((with_reducible first | refine And.intro ?_ ?_ | refine Exists.intro ?_ ?_); first | omega | (simp <;> omega)) | (with_reducible refine spl (And.intro ?_ ?_) <;> intro _)) <;> ((try simp (implicitDefEqProofs := false)); (try simp (implicitDefEqProofs := false) (disch := first | assumption | (try simp only [lens]); omega -splitDisjunctions))))))
  refine W_of fun Q hQ => ?_
  have main : ∀ k i, i + k = l.length → Q [(0, .list (l.map boolRow)), (1, .list (l.map boolRow)), (5, .int .i64 (i : Int))] [] := by
    intro k
    induction k with
    | zero =>
      intro i hi
      obtain rfl : i = l.length := by omega
      apply hQ
      (((try simp (implicitDefEqProofs := false)); (try simp (implicitDefEqProofs := false) (disch := first | assumption | (try simp only [lens]); omega -splitDisjunctions))); all_goals try (repeat' ((first | ((with_reducible first | refine And.intro ?_ ?_ | refine Exists.intro ?_ ?_); first | omega | (simp <;> omega)) | (with_reducible refine spl (And.intro ?_ ?_) <;> intro _)) <;> ((try simp (implicitDefEqProofs := false)); (try simp (implicitDefEqProofs := false) (disch := first | assumption | (try simp only [lens]); omega -splitDisjunctions))))))
    | succ k ih =>
      intro i hi
      have hia : i < l.length := by omega
      have ih := ih (i + 1) (by omega)
      apply hQ
      clear hQ
      (((try simp (implicitDefEqProofs := false) [hia]); (try simp (implicitDefEqProofs := false) (disch := first | assumption | (try simp only [lens]); omega -splitDisjunctions) [hia])); all_goals try (repeat' ((first | ((with_reducible first | refine And.intro ?_ ?_ | refine Exists.intro ?_ ?_); first | omega | (simp <;> omega)) | (with_reducible refine spl (And.intro ?_ ?_) <;> intro _)) <;> ((try simp (implicitDefEqProofs := false) [hia]); (try simp (implicitDefEqProofs := false) (disch := first | assumption | (try simp only [lens]); omega -splitDisjunctions) [hia])))))
      all_goals first | exact ih | (refine at2 ih ?_ ?_ <;> simp; done) | (exfalso; first | omega | (simp_all; done) | (simp_all; omega))
  refine at2 (main _ 0 (Nat.zero_add _)) ?_ ?_ <;> simp
def x12_T3 : XC := .seq (.seq (.reg [⟨some 144,.move (.tmp 7),none⟩,⟨some 145,.move (.tmp 16),none⟩,⟨some 146,.call ⟨.value (.func 45),#[.tmp 144,.tmp 145],#[46,46]⟩,none⟩,⟨some 147,.unOp .not 4 (.tmp 146),none⟩,⟨some 148,.move (.tmp 147),none⟩,⟨some 149,.move (.tmp 9),some (some 148,false)⟩,⟨some 150,.move (.tmp 17),some (some 148,false)⟩,⟨some 151,.binOp .lss 3 (.tmp 150) (.const (.int .i64 0)) 3,some (some 148,false)⟩,⟨some 152,.binOp .neq 4 (.tmp 149) (.tmp 151) 4,some (some 148,false)⟩,⟨some 153,.pick (.tmp 148) (.const (.bool true)) (.tmp 152),none⟩]) (.cond (.tmp 153) (.seq (.reg [⟨some 4,.assign (.const (.bool false)),none⟩]) (.ret)) (.skip))) (.seq (.seq (.reg [⟨some 154,.move (.tmp 9),none⟩]) (.cond (.tmp 154) (.seq (.reg [⟨some 155,.move (.tmp 10),none⟩,⟨some 156,.call ⟨.builtin .len,#[.tmp 155],#[53]⟩,none⟩,⟨some 157,.binOp .eql 3 (.tmp 156) (.const (.int .i64 0)) 3,none⟩,⟨some 4,.assign (.tmp 157),none⟩]) (.ret)) (.skip))) (.seq (.reg [⟨some 158,.move (.tmp 10),none⟩,⟨some 159,.move (.tmp 15),none⟩,⟨some 160,.move (.tmp 17),none⟩,⟨some 161,.call ⟨.value (.func 57),#[.tmp 159,.tmp 160],#[53,3]⟩,none⟩,⟨some 162,.call ⟨.value (.func 59),#[.tmp 158,.tmp 161],#[53,53]⟩,none⟩,⟨some 4,.assign (.tmp 162),none⟩]) (.ret)))
def x12_L2 : XC := .seq (.seq (.reg [⟨some 121,.move (.tmp 18),none⟩,⟨some 122,.move (.tmp 15),none⟩,⟨some 123,.call ⟨.builtin .len,#[.tmp 122],#[53]⟩,none⟩,⟨some 124,.binOp .shl 3 (.const (.int .i64 1)) (.tmp 123) 3,none⟩,⟨some 125,.binOp .lss 3 (.tmp 121) (.tmp 124) 3,none⟩]) (.cond (.tmp 125) (.skip) (.exit 2))) (.seq (.block 3 (.seq (.drawn 33 [⟨some 128,.load 24 (.tmp 2),none⟩,⟨some 129,.move (.tmp 15),none⟩,⟨some 130,.move (.tmp 18),none⟩,⟨some 131,.call ⟨.value (.func 57),#[.tmp 129,.tmp 130],#[53,3]⟩,none⟩,⟨some 132,.call ⟨.value (.func 56),#[.tmp 128,.tmp 131],#[24,53]⟩,none⟩,⟨some 19,.assign (.tmp 132),none⟩]) (.seq (.reg [⟨some 133,.move (.tmp 16),none⟩,⟨some 134,.move (.tmp 19),none⟩,⟨some 135,.buildSlice 46 1 #[(0,.tmp 134)],none⟩,⟨some 136,.call ⟨.builtin .append,#[.tmp 133,.tmp 135],#[46,46]⟩,none⟩,⟨some 16,.assign (.tmp 136),none⟩]) (.seq (.reg [⟨some 137,.move (.tmp 19),none⟩,⟨some 138,.unOp .not 4 (.tmp 137),none⟩,⟨some 139,.move (.tmp 138),none⟩,⟨some 140,.move (.tmp 17),some (some 139,true)⟩,⟨some 141,.binOp .lss 3 (.tmp 140) (.const (.int .i64 0)) 3,some (some 139,true)⟩,⟨some 142,.pick (.tmp 139) (.tmp 141) (.const (.bool false)),none⟩]) (.cond (.tmp 142) (.reg [⟨some 143,.move (.tmp 18),none⟩,⟨some 17,.assign (.tmp 143),none⟩]) (.skip)))))) (.reg [⟨some 126,.move (.tmp 18),none⟩,⟨some 127,.binOp .add 3 (.tmp 126) (.const (.int .i64 1)) 3,none⟩,⟨some 18,.assign (.tmp 127),none⟩]))
def x12_T1 : XC := .seq (.seq (.reg [⟨some 73,.load 29 (.tmp 6),none⟩,⟨some 74,.load 29 (.tmp 13),none⟩,⟨some 75,.binOp .neq 29 (.tmp 73) (.tmp 74) 29,none⟩,⟨some 76,.move (.tmp 75),none⟩,⟨some 77,.move (.tmp 5),some (some 76,false)⟩,⟨some 78,.fieldAddr 29 (.tmp 13) 0,some (some 76,false)⟩,⟨some 79,.load 3 (.tmp 78),some (some 76,false)⟩,⟨some 80,.binOp .eql 3 (.tmp 79) (.const (.int .i64 0)) 3,some (some 76,false)⟩,⟨some 81,.move (.tmp 80),some (some 76,false)⟩,⟨some 82,.load 24 (.tmp 2),some (some 81,true)⟩,⟨some 83,.move (.tmp 1),some (some 81,true)⟩,⟨some 84,.call ⟨.value (.func 56),#[.tmp 82,.tmp 83],#[24,53]⟩,some (some 81,true)⟩,⟨some 85,.pick (.tmp 81) (.tmp 84) (.const (.bool false)),some (some 76,false)⟩,⟨some 86,.binOp .neq 4 (.tmp 77) (.tmp 85) 4,some (some 76,false)⟩,⟨some 87,.pick (.tmp 76) (.const (.bool true)) (.tmp 86),none⟩]) (.cond (.tmp 87) (.seq (.reg [⟨some 4,.assign (.const (.bool false)),none⟩]) (.ret)) (.skip))) (.seq (.reg [⟨some 15,.assign (.const (.slice none 0 0)),none⟩]) (.seq (.seq (.reg [⟨some 88,.fieldAddr 29 (.tmp 12) 0,none⟩,⟨some 89,.load 3 (.tmp 88),none⟩,⟨some 90,.binOp .eql 3 (.tmp 89) (.const (.int .i64 0)) 3,none⟩]) (.cond (.tmp 90) (.seq (.reg [⟨some 91,.load 24 (.tmp 2),none⟩,⟨some 92,.buildSlice 22 1 #[(0,.tmp 91)],none⟩,⟨some 93,.call ⟨.value (.func 47),#[.tmp 92],#[22]⟩,none⟩,⟨some 15,.assign (.tmp 93),none⟩]) (.seq (.reg [⟨some 94,.move (.tmp 15),none⟩,⟨some 95,.call ⟨.builtin .len,#[.tmp 94],#[53]⟩,none⟩,⟨some 96,.binOp .gtr 3 (.tmp 95) (.const (.int .i64 6)) 3,none⟩]) (.cond (.tmp 96) (.reg [⟨some 97,.call ⟨.value (.func 48),#[.const (.int .i64 2),.const (.int .i64 0)],#[3,3]⟩,none⟩,⟨none,.store 29 (.tmp 12) (.tmp 97),none⟩]) (.skip)))) (.skip))) (.seq (.seq (.reg [⟨some 98,.load 29 (.tmp 8),none⟩,⟨some 99,.load 29 (.tmp 12),none⟩,⟨some 100,.binOp .neq 29 (.tmp 98) (.tmp 99) 29,none⟩,⟨some 101,.move (.tmp 100),none⟩,⟨some 102,.load 29 (.tmp 11),some (some 101,false)⟩,⟨some 103,.load 29 (.tmp 12),some (some 101,false)⟩,⟨some 104,.binOp .neq 29 (.tmp 102) (.tmp 103) 29,some (some 101,false)⟩,⟨some 105,.pick (.tmp 101) (.const (.bool true)) (.tmp 104),none⟩]) (.cond (.tmp 105) (.seq (.reg [⟨some 4,.assign (.const (.bool false)),none⟩]) (.ret)) (.skip))) (.seq (.seq (.reg [⟨some 106,.fieldAddr 29 (.tmp 12) 0,none⟩,⟨some 107,.load 3 (.tmp 106),none⟩,⟨some 108,.binOp .neq 3 (.tmp 107) (.const (.int .i64 0)) 3,none⟩]) (.cond (.tmp 108) (.seq (.reg [⟨some 109,.move (.tmp 7),none⟩,⟨some 110,.call ⟨.builtin .len,#[.tmp 109],#[46]⟩,none⟩,⟨some 111,.binOp .eql 3 (.tmp 110) (.const (.int .i64 0)) 3,none⟩,⟨some 112,.move (.tmp 111),none⟩,⟨some 113,.move (.tmp 9),some (some 112,true)⟩,⟨some 114,.unOp .not 4 (.tmp 113),some (some 112,true)⟩,⟨some 115,.pick (.tmp 112) (.tmp 114) (.const (.bool false)),none⟩,⟨some 116,.move (.tmp 115),none⟩,⟨some 117,.move (.tmp 10),some (some 116,true)⟩,⟨some 118,.call ⟨.builtin .len,#[.tmp 117],#[53]⟩,some (some 116,true)⟩,⟨some 119,.binOp .eql 3 (.tmp 118) (.const (.int .i64 0)) 3,some (some 116,true)⟩,⟨some 120,.pick (.tmp 116) (.tmp 119) (.const (.bool false)),none⟩,⟨some 4,.assign (.tmp 120),none⟩]) (.ret)) (.skip))) (.seq (.reg [⟨some 16,.assign (.const (.slice none 0 0)),none⟩]) (.seq (.reg [⟨some 17,.assign (.const (.int .i64 (-1))),none⟩]) (.seq (.seq (.reg [⟨some 18,.assign (.const (.int .i64 0)),none⟩]) (.bloop 2 x12_L2)) (x12_T3))))))))
def x12_L0 : XC := .seq (.seq (.reg [⟨some 54,.move (.tmp 14),none⟩,⟨some 55,.move (.tmp 1),none⟩,⟨some 56,.call ⟨.builtin .len,#[.tmp 55],#[53]⟩,none⟩,⟨some 57,.binOp .lss 3 (.tmp 54) (.tmp 56) 3,none⟩,⟨some 58,.move (.tmp 57),none⟩,⟨some 59,.fieldAddr 29 (.tmp 13) 0,some (some 58,true)⟩,⟨some 60,.load 3 (.tmp 59),some (some 58,true)⟩,⟨some 61,.binOp .eql 3 (.tmp 60) (.const (.int .i64 0)) 3,some (some 58,true)⟩,⟨some 62,.pick (.tmp 58) (.tmp 61) (.const (.bool false)),none⟩]) (.cond (.tmp 62) (.skip) (.exit 0))) (.seq (.block 1 (.seq (.reg [⟨some 65,.move (.tmp 1),none⟩,⟨some 66,.move (.tmp 14),none⟩,⟨some 67,.indexAddr 53 (.tmp 65) (.tmp 66),none⟩,⟨some 68,.load 9 (.tmp 67),none⟩,⟨some 69,.call ⟨.value (.func 32),#[.tmp 68],#[9]⟩,none⟩,⟨some 70,.unOp .not 4 (.tmp 69),none⟩]) (.cond (.tmp 70) (.reg [⟨some 71,.move (.tmp 14),none⟩,⟨some 72,.call ⟨.value (.func 48),#[.const (.int .i64 8),.tmp 71],#[3,3]⟩,none⟩,⟨none,.store 29 (.tmp 13) (.tmp 72),none⟩]) (.skip)))) (.reg [⟨some 63,.move (.tmp 14),none⟩,⟨some 64,.binOp .add 3 (.tmp 63) (.const (.int .i64 1)) 3,none⟩,⟨some 14,.assign (.tmp 64),none⟩]))
def x12 : XC := .seq (.reg [⟨some 2,.box 24 (.tmp 0),none⟩,⟨some 4,.assign (.const (.bool false)),none⟩]) (.seq (.seq (.reg [⟨some 20,.call ⟨.value (.func 28),#[],#[]⟩,none⟩,⟨some 21,.unOp .not 4 (.tmp 20),none⟩]) (.cond (.tmp 21) (.seq (.reg [⟨some 4,.assign (.const (.bool false)),none⟩]) (.ret)) (.skip))) (.seq (.seq (.reg [⟨some 22,.load 24 (.tmp 2),none⟩,⟨some 23,.call ⟨.value (.func 16),#[.tmp 22,.const (.int .i64 0)],#[24,3]⟩,none⟩]) (.cond (.tmp 23) (.seq (.reg [⟨some 4,.assign (.const (.bool true)),none⟩]) (.ret)) (.skip))) (.seq (.reg [⟨some 25,.load 24 (.tmp 2),none⟩,⟨some 26,.move (.tmp 1),none⟩,⟨some 27,.call ⟨.value (.func 52),#[.tmp 25,.tmp 26],#[24,53]⟩,none⟩,⟨some 24,.move (.tmp 27),none⟩,⟨some 28,.extract (.tmp 24) 0,none⟩,⟨some 29,.extract (.tmp 24) 1,none⟩,⟨some 6,.alloc 29,none⟩,⟨some 5,.assign (.tmp 28),none⟩,⟨none,.store 29 (.tmp 6) (.tmp 29),none⟩]) (.seq (.reg [⟨some 31,.load 24 (.tmp 2),none⟩,⟨some 32,.call ⟨.value (.func 58),#[.tmp 31],#[24]⟩,none⟩,⟨some 30,.move (.tmp 32),none⟩,⟨some 33,.extract (.tmp 30) 0,none⟩,⟨some 34,.extract (.tmp 30) 1,none⟩,⟨some 8,.alloc 29,none⟩,⟨some 7,.assign (.tmp 33),none⟩,⟨none,.store 29 (.tmp 8) (.tmp 34),none⟩]) (.seq (.reg [⟨some 36,.load 24 (.tmp 2),none⟩,⟨some 37,.call ⟨.value (.func 35),#[.tmp 36],#[24]⟩,none⟩,⟨some 35,.move (.tmp 37),none⟩,⟨some 38,.extract (.tmp 35) 0,none⟩,⟨some 39,.extract (.tmp 35) 1,none⟩,⟨some 40,.extract (.tmp 35) 2,none⟩,⟨some 11,.alloc 29,none⟩,⟨some 9,.assign (.tmp 38),none⟩,⟨some 10,.assign (.tmp 39),none⟩,⟨none,.store 29 (.tmp 11) (.tmp 40),none⟩]) (.seq (.reg [⟨some 41,.load 24 (.tmp 2),none⟩,⟨some 42,.buildSlice 22 1 #[(0,.tmp 41)],none⟩,⟨some 43,.call ⟨.value (.func 31),#[.tmp 42],#[22]⟩,none⟩,⟨some 12,.alloc 29,none⟩,⟨none,.store 29 (.tmp 12) (.tmp 43),none⟩]) (.seq (.reg [⟨some 44,.load 29 (.tmp 12),none⟩,⟨some 13,.alloc 29,none⟩,⟨none,.store 29 (.tmp 13) (.tmp 44),none⟩]) (.seq (.seq (.reg [⟨some 45,.fieldAddr 29 (.tmp 13) 0,none⟩,⟨some 46,.load 3 (.tmp 45),none⟩,⟨some 47,.binOp .eql 3 (.tmp 46) (.const (.int .i64 0)) 3,none⟩,⟨some 48,.move (.tmp 47),none⟩,⟨some 49,.move (.tmp 1),some (some 48,true)⟩,⟨some 50,.call ⟨.builtin .len,#[.tmp 49],#[53]⟩,some (some 48,true)⟩,⟨some 51,.binOp .gtr 3 (.tmp 50) (.const (.int .i64 1000)) 3,some (some 48,true)⟩,⟨some 52,.pick (.tmp 48) (.tmp 51) (.const (.bool false)),none⟩]) (.cond (.tmp 52) (.reg [⟨some 53,.call ⟨.value (.func 48),#[.const (.int .i64 2),.const (.int .i64 0)],#[3,3]⟩,none⟩,⟨none,.store 29 (.tmp 13) (.tmp 53),none⟩]) (.skip))) (.seq (.seq (.reg [⟨some 14,.assign (.const (.int .i64 0)),none⟩]) (.bloop 0 x12_L0)) (x12_T1))))))))))
@[simp] theorem x12_s {C : WC} {e : AE} {s : Store} {K : KS} : type_of% (@X_at C e s K _ _ x12_T3.eq_1) ∧ type_of% (@X_at C e s K _ _ x12_L2.eq_1) ∧ type_of% (@X_at C e s K _ _ x12_T1.eq_1) ∧ type_of% (@X_at C e s K _ _ x12_L0.eq_1) ∧ type_of% (@X_at C e s K _ _ x12.eq_1) := ⟨X_at x12_T3.eq_1, X_at x12_L2.eq_1, X_at x12_T1.eq_1, X_at x12_L0.eq_1, X_at x12.eq_1⟩
def an12 : Ann := ⟨[(33, .mix 4)], [(2, [(16, none, 1)], [2, 7, 9, 10, 15, 16, 17, 18], [7, 9, 10, 15, 16, 17]), (0, [], [1, 2, 5, 6, 7, 8, 9, 10, 11, 12, 13, 14], [1, 2, 5, 6, 7, 8, 9, 10, 11, 12, 13])], []⟩
def cx12 (P : Program) (m : Nat) : WC := ⟨P, m, an12⟩
@[simp] theorem cx12_a {P : Program} {m : Nat} : (cx12 P m).P = P ∧ (cx12 P m).m = m ∧ (cx12 P m).A.clsOf 33 = .mix 4 ∧ (cx12 P m).A.frzOf 33 = [] ∧ (cx12 P m).A.loopOf 2 = ([(16, none, 1)], [2, 7, 9, 10, 15, 16, 17, 18], [7, 9, 10, 15, 16, 17]) ∧ (cx12 P m).A.loopOf 0 = ([], [1, 2, 5, 6, 7, 8, 9, 10, 11, 12, 13, 14], [1, 2, 5, 6, 7, 8, 9, 10, 11, 12, 13]) := ⟨rfl, rfl, rfl, rfl, rfl, rfl⟩
instance {P : Program} {m f : Nat} [h : EnT P f] : EnT (cx12 P m).P f := h
theorem chk12 : ∀ c, Try.f12.body = some c → chkC Try.f12.ntmps an12 c = true := by intro c h; obtain rfl := Option.some.inj h; decide +kernel
theorem op12 {args : List PV} {v : PV} (h : X (cx12 Try.prog 0) x12 (argsA 0 args) [] (.fin [.tmp 4] fun v1 s1 => deref s1 6 v1 = v)) (hl : args.length ≤ Try.f12.ntmps := by rw [Try.ntmps12]; simp) : CallOK Try.prog 12 args [] v [] :=
  callX (m := 0) (cx12 Try.prog 0) x12 rfl rfl (by kernel_rfl) Try.func12 rfl rfl hl mixed (chk12 _ rfl) (by rw [Try.results12]; exact h)

theorem truthValues_law (f : Fm) (hs : List ByteArray) : CallOK Try.prog 12 [.agg (frm f), .list (hs.map strRow)] [] (.bool true) [] := by
  have hbg0 := truthBegun_law
  have hva := vast_ref f 0 (by omega) (by omega) []
  have hvl := Value_truth f hs
  have hrw := Rows_truth f
  have hvd := Valid_truth f
  have hpf := PlainFault_ref [f] (by simp)
  rw [plainL_one] at hpf
  simp only [List.map_cons, List.map_nil] at hpf
  have hF := F_ref
  refine op12 ?_
  generalize vastB f 0 = vb at *
  cases vb with
  | true => (((try simp (implicitDefEqProofs := false)); (try simp (implicitDefEqProofs := false) (disch := first | assumption | (try simp only [lens]); omega -splitDisjunctions))); all_goals try (repeat' ((first | ((with_reducible first | refine And.intro ?_ ?_ | refine Exists.intro ?_ ?_); first | omega | (simp <;> omega)) | (with_reducible refine spl (And.intro ?_ ?_) <;> intro _) | (refine CL.clo (hbg0) ?_) | (refine CM.clo (hbg0) ?_) | (refine CD.clo (hbg0) ?_) | (refine CL.clo (hva) ?_) | (refine CM.clo (hva) ?_) | (refine CD.clo (hva) ?_)) <;> ((try simp (implicitDefEqProofs := false)); (try simp (implicitDefEqProofs := false) (disch := first | assumption | (try simp only [lens]); omega -splitDisjunctions))))))
  | false =>
    by_cases h1 : (plainF f).1 = 0
    · have hz := plainF_zero h1
      have hck := plain_chkW h1
      have hpl := ((plainF_iff f).1 h1).1
      have hni := NamesIn_ref f
      rw [namesIn_eq hck] at hni
      have hV0 : valueV f hs = if 1000 < hs.length then (false, (2, 0)) else match nameBad hs 0 with
        | some w => (false, w)
        | none => (tv (fun x => memB x hs) f, (0, 0)) := by unfold valueV; rw [if_neg (by simpa using h1)]; rfl
      generalize valueV f hs = V at *
      obtain ⟨v, u1, u2⟩ := V
      dsimp only at hvl
      rw [hz] at hpf
      have htr := True_ref hs f hpl
      have hfew : fewV f = if 6 < (namesF f).length then ([], (2, 0)) else (namesF f, (0, 0)) := by unfold fewV; rw [if_neg (by simpa using h1)]
      generalize tv (fun x => memB x hs) f = tt at *
      clear hz h1 hck
      have hV1 : u1 = 0 → v = tt ∧ u2 = 0 := by
        intro h
        split at hV0
        · simp only [Prod.mk.injEq] at hV0; omega
        · cases hb : nameBad hs 0 with
          | some w => rw [hb] at hV0; have := nameBad_code _ _ _ hb; simp only [Prod.mk.injEq] at hV0; rw [← hV0.2] at this; simp only at this; omega
          | none => rw [hb] at hV0; simp only [Prod.mk.injEq] at hV0; exact ⟨hV0.1, hV0.2.2⟩
      have hV2 : ¬ u1 = 0 → v = false := by
        intro h
        split at hV0
        · simp only [Prod.mk.injEq] at hV0; exact hV0.1
        · cases hb : nameBad hs 0 with
          | some w => rw [hb] at hV0; simp only [Prod.mk.injEq] at hV0; exact hV0.1
          | none => rw [hb] at hV0; simp only [Prod.mk.injEq] at hV0; omega
      (((try simp (implicitDefEqProofs := false)); (try simp (implicitDefEqProofs := false) (disch := first | assumption | (try simp only [lens]); omega -splitDisjunctions))); all_goals try (repeat' ((first | ((with_reducible first | refine And.intro ?_ ?_ | refine Exists.intro ?_ ?_); first | omega | (simp <;> omega)) | (with_reducible refine spl (And.intro ?_ ?_) <;> intro _) | (refine CL.clo (hbg0) ?_) | (refine CM.clo (hbg0) ?_) | (refine CD.clo (hbg0) ?_) | (refine CL.clo (hva) ?_) | (refine CM.clo (hva) ?_) | (refine CD.clo (hva) ?_) | (refine CL.clo (hvl) ?_) | (refine CM.clo (hvl) ?_) | (refine CD.clo (hvl) ?_) | (refine CL.clo (hrw) ?_) | (refine CM.clo (hrw) ?_) | (refine CD.clo (hrw) ?_) | (refine CL.clo (hvd) ?_) | (refine CM.clo (hvd) ?_) | (refine CD.clo (hvd) ?_)) <;> ((try simp (implicitDefEqProofs := false)); (try simp (implicitDefEqProofs := false) (disch := first | assumption | (try simp only [lens]); omega -splitDisjunctions))))))
      refine CL.giv [4] ?_
      by_cases hl : 1000 < hs.length
      all_goals (first
        | (rw [if_pos hl] at hV0; have hli : (1000 : Int) < (hs.length : Int) := by omega)
        | (rw [if_neg hl] at hV0; have hli : ¬ (1000 : Int) < (hs.length : Int) := by omega))
      all_goals ((((try simp (implicitDefEqProofs := false) [hli]); (try simp (implicitDefEqProofs := false) (disch := first | assumption | (try simp only [lens]); omega -splitDisjunctions) [hli])); all_goals try (repeat' ((first | ((with_reducible first | refine And.intro ?_ ?_ | refine Exists.intro ?_ ?_); first | omega | (simp <;> omega)) | (with_reducible refine spl (And.intro ?_ ?_) <;> intro _) | (refine CL.clo (hpf) ?_) | (refine CM.clo (hpf) ?_) | (refine CD.clo (hpf) ?_) | (refine CL.clo (hF 2 0) ?_) | (refine CM.clo (hF 2 0) ?_) | (refine CD.clo (hF 2 0) ?_)) <;> ((try simp (implicitDefEqProofs := false) [hli]); (try simp (implicitDefEqProofs := false) (disch := first | assumption | (try simp only [lens]); omega -splitDisjunctions) [hli]))))))
      all_goals clear hbg0 hva hvl hrw hvd hpf hli
      all_goals refine W_of fun Q hQ => ?_
      all_goals
        have ex : ∀ i : Nat, (u1 = 0 → i = hs.length) → Q [(1, .list (hs.map strRow)), (2, .ptr 0 0 0), (5, .bool v), (6, .ptr 1 0 0), (7, .list ((rowsV f).map boolRow)), (8, .ptr 2 0 0), (9, .bool (validV f).1), (10, .list ((validV f).2.map strRow)), (11, .ptr 3 0 0), (12, .ptr 4 0 0), (13, .ptr 5 0 0), (14, .int .i64 (i : Int))] [.rows 3 [frm f], .rows 2 [[.int .i64 u1, .int .i64 u2]], .rows 2 [[.int .i64 (fewV f).2.1, .int .i64 (fewV f).2.2]], .rows 2 [[.int .i64 (fewV f).2.1, .int .i64 (fewV f).2.2]], .rows 2 [[.int .i64 0, .int .i64 0]], .rows 2 [[.int .i64 u1, .int .i64 u2]]] := by
          intro i hi
          apply hQ
          clear hQ
          by_cases hM : 6 < (namesF f).length
          · rw [if_pos hM] at hfew
            have hMi : (6 : Int) < ((namesF f).length : Int) := by omega
            have hR : rowsV f = [] := by unfold rowsV; rw [hfew]; rfl
            have hD : validV f = (false, []) := by unfold validV; rw [hfew]; rfl
            rw [hfew, hR, hD]
            generalize namesF f = M at *
            by_cases hu : u1 = 0
            · obtain ⟨rfl, rfl⟩ := hV1 hu
              obtain rfl := hi hu
              subst hu
              (((try simp (implicitDefEqProofs := false)); (try simp (implicitDefEqProofs := false) (disch := first | assumption | (try simp only [lens]); omega -splitDisjunctions))); all_goals try (repeat' ((first | ((with_reducible first | refine And.intro ?_ ?_ | refine Exists.intro ?_ ?_); first | omega | (simp <;> omega)) | (with_reducible refine spl (And.intro ?_ ?_) <;> intro _) | (refine CL.clo (htr) ?_) | (refine CM.clo (htr) ?_) | (refine CD.clo (htr) ?_)) <;> ((try simp (implicitDefEqProofs := false)); (try simp (implicitDefEqProofs := false) (disch := first | assumption | (try simp only [lens]); omega -splitDisjunctions))))))
              refine CL.giv [6] ?_
              (((try simp (implicitDefEqProofs := false) [hMi]); (try simp (implicitDefEqProofs := false) (disch := first | assumption | (try simp only [lens]); omega -splitDisjunctions) [hMi])); all_goals try (repeat' ((first | ((with_reducible first | refine And.intro ?_ ?_ | refine Exists.intro ?_ ?_); first | omega | (simp <;> omega)) | (with_reducible refine spl (And.intro ?_ ?_) <;> intro _) | (refine CL.clo (hni) ?_) | (refine CM.clo (hni) ?_) | (refine CD.clo (hni) ?_) | (refine CL.clo (hF 2 0) ?_) | (refine CM.clo (hF 2 0) ?_) | (refine CD.clo (hF 2 0) ?_)) <;> ((try simp (implicitDefEqProofs := false) [hMi]); (try simp (implicitDefEqProofs := false) (disch := first | assumption | (try simp only [lens]); omega -splitDisjunctions) [hMi])))))
            · obtain rfl := hV2 hu
              (((try simp (implicitDefEqProofs := false) [hu]); (try simp (implicitDefEqProofs := false) (disch := first | assumption | (try simp only [lens]); omega -splitDisjunctions) [hu])); all_goals try (repeat' ((first | ((with_reducible first | refine And.intro ?_ ?_ | refine Exists.intro ?_ ?_); first | omega | (simp <;> omega)) | (with_reducible refine spl (And.intro ?_ ?_) <;> intro _)) <;> ((try simp (implicitDefEqProofs := false) [hu]); (try simp (implicitDefEqProofs := false) (disch := first | assumption | (try simp only [lens]); omega -splitDisjunctions) [hu])))))
              all_goals refine CL.giv [6] ?_
              all_goals ((((try simp (implicitDefEqProofs := false) [hMi]); (try simp (implicitDefEqProofs := false) (disch := first | assumption | (try simp only [lens]); omega -splitDisjunctions) [hMi])); all_goals try (repeat' ((first | ((with_reducible first | refine And.intro ?_ ?_ | refine Exists.intro ?_ ?_); first | omega | (simp <;> omega)) | (with_reducible refine spl (And.intro ?_ ?_) <;> intro _) | (refine CL.clo (hni) ?_) | (refine CM.clo (hni) ?_) | (refine CD.clo (hni) ?_) | (refine CL.clo (hF 2 0) ?_) | (refine CM.clo (hF 2 0) ?_) | (refine CD.clo (hF 2 0) ?_)) <;> ((try simp (implicitDefEqProofs := false) [hMi]); (try simp (implicitDefEqProofs := false) (disch := first | assumption | (try simp only [lens]); omega -splitDisjunctions) [hMi]))))))
          · rw [if_neg hM] at hfew
            have hMi : ¬ (6 : Int) < ((namesF f).length : Int) := by omega
            rw [hfew]
            have hR : rowsV f = rowsB (namesF f) f := by unfold rowsV; rw [hfew]; rfl
            have hD : validV f = match fstF (rowsB (namesF f) f) with
              | none => (true, [])
              | some k => (false, rowL (namesF f) k) := by unfold validV; rw [hfew]; rfl
            rw [hR]
            have hro := fun k hk => Row_ref (namesF f) (by omega) k hk
            have hbl : (rowsB (namesF f) f).length = 2 ^ (namesF f).length := by simp [rowsB]
            have hbg : ∀ k (h : k < (rowsB (namesF f) f).length), (rowsB (namesF f) f)[k] = tv (fun x => memB x (rowL (namesF f) k)) f := fun k h => by simp [rowsB]
            have hZ : 1 ≤ 2 ^ (namesF f).length ∧ 2 ^ (namesF f).length ≤ 64 := ⟨Nat.one_le_two_pow, Nat.le_trans (Nat.pow_le_pow_right (by decide) (show (namesF f).length ≤ 6 by omega)) (by decide)⟩
            have hsh := shl_nat (namesF f).length (by omega)
            generalize rowsB (namesF f) f = B at *
            generalize namesF f = M at *
            generalize validV f = D at *
            generalize rowsV f = R at *
            generalize 2 ^ M.length = Z at *
            subst hR
            clear hfew
            have key : W (cx12 Try.prog 0) 2 x12_L2 (KS.seq x12_T3 (KS.fin [ResultVar.tmp 4] fun v1 s1 => deref s1 6 v1 = PV.bool true)) [(2, .ptr 0 0 0), (7, .list (R.map boolRow)), (9, .bool D.1), (10, .list (D.2.map strRow)), (15, .list (M.map strRow)), (16, .sl 1 0 0), (17, .int .i64 (-1)), (18, .int .i64 0)] [.rows 3 [frm f], .rows 1 []] := by
              clear htr hni hV0 hV1 hV2
              have hl0 : ¬ ((M.length : Int) < 0) := by omega
              refine W_of fun Q hQ => ?_
              have main2 : ∀ r k, k + r = Z → Q [(2, .ptr 0 0 0), (7, .list (R.map boolRow)), (9, .bool D.1), (10, .list (D.2.map strRow)), (15, .list (M.map strRow)), (16, .sl 1 0 (k : Nat)), (17, .int .i64 (firstI (R.take k))), (18, .int .i64 (k : Int))] [.rows 3 [frm f], .rows 1 ((R.take k).map boolRow)] := by
                intro r
                induction r with
                | zero =>
                  intro k hk
                  obtain rfl : k = R.length := by omega
                  obtain rfl : Z = R.length := by omega
                  rw [List.take_of_length_le (by omega)]
                  have hbi := bitsE_law R
                  unfold firstI
                  cases hfs : fstF R with
                  | none =>
                    rw [hfs] at hD
                    simp only at hD
                    subst hD
                    apply hQ
                    clear hQ
                    (((try simp (implicitDefEqProofs := false) [hsh, hl0]); (try simp (implicitDefEqProofs := false) (disch := first | assumption | (try simp only [lens]); omega -splitDisjunctions) [hsh, hl0])); all_goals try (repeat' ((first | ((with_reducible first | refine And.intro ?_ ?_ | refine Exists.intro ?_ ?_); first | omega | (simp <;> omega)) | (with_reducible refine spl (And.intro ?_ ?_) <;> intro _)) <;> ((try simp (implicitDefEqProofs := false) [hsh, hl0]); (try simp (implicitDefEqProofs := false) (disch := first | assumption | (try simp only [lens]); omega -splitDisjunctions) [hsh, hl0])))))
                    refine CL.giv [0] ?_
                    (((try simp (implicitDefEqProofs := false)); (try simp (implicitDefEqProofs := false) (disch := first | assumption | (try simp only [lens]); omega -splitDisjunctions))); all_goals try (repeat' ((first | ((with_reducible first | refine And.intro ?_ ?_ | refine Exists.intro ?_ ?_); first | omega | (simp <;> omega)) | (with_reducible refine spl (And.intro ?_ ?_) <;> intro _) | (refine CL.clo (hbi) ?_) | (refine CM.clo (hbi) ?_) | (refine CD.clo (hbi) ?_)) <;> ((try simp (implicitDefEqProofs := false)); (try simp (implicitDefEqProofs := false) (disch := first | assumption | (try simp only [lens]); omega -splitDisjunctions))))))
                  | some j =>
                    rw [hfs] at hD
                    simp only at hD
                    subst hD
                    have hj : j < R.length := (List.findIdx?_eq_some_iff_getElem.1 hfs).1
                    have hro := hro j (by omega)
                    have htx := Texts_ref (rowL M j) (rowL M j)
                    rw [decide_eq_true rfl] at htx
                    generalize rowL M j = P at *
                    apply hQ
                    clear hQ
                    (((try simp (implicitDefEqProofs := false) [hsh, hl0]); (try simp (implicitDefEqProofs := false) (disch := first | assumption | (try simp only [lens]); omega -splitDisjunctions) [hsh, hl0])); all_goals try (repeat' ((first | ((with_reducible first | refine And.intro ?_ ?_ | refine Exists.intro ?_ ?_); first | omega | (simp <;> omega)) | (with_reducible refine spl (And.intro ?_ ?_) <;> intro _)) <;> ((try simp (implicitDefEqProofs := false) [hsh, hl0]); (try simp (implicitDefEqProofs := false) (disch := first | assumption | (try simp only [lens]); omega -splitDisjunctions) [hsh, hl0])))))
                    refine CL.giv [0] ?_
                    (((try simp (implicitDefEqProofs := false)); (try simp (implicitDefEqProofs := false) (disch := first | assumption | (try simp only [lens]); omega -splitDisjunctions))); all_goals try (repeat' ((first | ((with_reducible first | refine And.intro ?_ ?_ | refine Exists.intro ?_ ?_); first | omega | (simp <;> omega)) | (with_reducible refine spl (And.intro ?_ ?_) <;> intro _) | (refine CL.clo (hbi) ?_) | (refine CM.clo (hbi) ?_) | (refine CD.clo (hbi) ?_) | (refine CL.clo (hro) ?_) | (refine CM.clo (hro) ?_) | (refine CD.clo (hro) ?_) | (refine CL.clo (htx) ?_) | (refine CM.clo (htx) ?_) | (refine CD.clo (htx) ?_)) <;> ((try simp (implicitDefEqProofs := false)); (try simp (implicitDefEqProofs := false) (disch := first | assumption | (try simp only [lens]); omega -splitDisjunctions))))))
                | succ r ih =>
                  intro k hk
                  have ih := ih (k + 1) (by omega)
                  have hkZ : k < Z := by omega
                  have hkB : k < R.length := by omega
                  rw [take_snoc hkB, firstI_snoc, List.length_take, Nat.min_eq_left (by omega)] at ih
                  have hro := hro k (by omega)
                  have htr := True_ref (rowL M k) f hpl
                  rw [← hbg k hkB] at htr
                  generalize rowL M k = P at *
                  generalize hx : R[k] = x at *
                  generalize firstI (R.take k) = g at *
                  have hrl : (R.take k).length = k := by rw [List.length_take]; omega
                  have htk : List.take k ((R.take k).map boolRow) = (R.take k).map boolRow := List.take_of_length_le (by rw [List.length_map]; omega)
                  generalize R.take k = RT at *
                  apply hQ
                  clear hQ
                  cases x with
                  | true =>
                    rw [if_neg (by simp)] at ih
                    (((try simp (implicitDefEqProofs := false) [hsh, hl0, hkZ, hrl, htk]); (try simp (implicitDefEqProofs := false) (disch := first | assumption | (try simp only [lens]); omega -splitDisjunctions) [hsh, hl0, hkZ, hrl, htk])); all_goals try (repeat' ((first | ((with_reducible first | refine And.intro ?_ ?_ | refine Exists.intro ?_ ?_); first | omega | (simp <;> omega)) | (with_reducible refine spl (And.intro ?_ ?_) <;> intro _) | (refine CL.clo (hro) ?_) | (refine CM.clo (hro) ?_) | (refine CD.clo (hro) ?_) | (refine CL.clo (htr) ?_) | (refine CM.clo (htr) ?_) | (refine CD.clo (htr) ?_)) <;> ((try simp (implicitDefEqProofs := false) [hsh, hl0, hkZ, hrl, htk]); (try simp (implicitDefEqProofs := false) (disch := first | assumption | (try simp only [lens]); omega -splitDisjunctions) [hsh, hl0, hkZ, hrl, htk])))))
                    all_goals first | exact ih | (refine at2 ih ?_ ?_ <;> simp; done) | (exfalso; first | omega | (simp_all; done) | (simp_all; omega))
                  | false =>
                    by_cases hg : g < 0
                    · rw [if_pos ⟨hg, rfl⟩] at ih
                      (((try simp (implicitDefEqProofs := false) [hsh, hl0, hkZ, hrl, htk, hg]); (try simp (implicitDefEqProofs := false) (disch := first | assumption | (try simp only [lens]); omega -splitDisjunctions) [hsh, hl0, hkZ, hrl, htk, hg])); all_goals try (repeat' ((first | ((with_reducible first | refine And.intro ?_ ?_ | refine Exists.intro ?_ ?_); first | omega | (simp <;> omega)) | (with_reducible refine spl (And.intro ?_ ?_) <;> intro _) | (refine CL.clo (hro) ?_) | (refine CM.clo (hro) ?_) | (refine CD.clo (hro) ?_) | (refine CL.clo (htr) ?_) | (refine CM.clo (htr) ?_) | (refine CD.clo (htr) ?_)) <;> ((try simp (implicitDefEqProofs := false) [hsh, hl0, hkZ, hrl, htk, hg]); (try simp (implicitDefEqProofs := false) (disch := first | assumption | (try simp only [lens]); omega -splitDisjunctions) [hsh, hl0, hkZ, hrl, htk, hg])))))
                      all_goals first | exact ih | (refine at2 ih ?_ ?_ <;> simp; done) | (exfalso; first | omega | (simp_all; done) | (simp_all; omega))
                    · rw [if_neg (fun h => hg h.1)] at ih
                      (((try simp (implicitDefEqProofs := false) [hsh, hl0, hkZ, hrl, htk, hg]); (try simp (implicitDefEqProofs := false) (disch := first | assumption | (try simp only [lens]); omega -splitDisjunctions) [hsh, hl0, hkZ, hrl, htk, hg])); all_goals try (repeat' ((first | ((with_reducible first | refine And.intro ?_ ?_ | refine Exists.intro ?_ ?_); first | omega | (simp <;> omega)) | (with_reducible refine spl (And.intro ?_ ?_) <;> intro _) | (refine CL.clo (hro) ?_) | (refine CM.clo (hro) ?_) | (refine CD.clo (hro) ?_) | (refine CL.clo (htr) ?_) | (refine CM.clo (htr) ?_) | (refine CD.clo (htr) ?_)) <;> ((try simp (implicitDefEqProofs := false) [hsh, hl0, hkZ, hrl, htk, hg]); (try simp (implicitDefEqProofs := false) (disch := first | assumption | (try simp only [lens]); omega -splitDisjunctions) [hsh, hl0, hkZ, hrl, htk, hg])))))
                      all_goals first | exact ih | (refine at2 ih ?_ ?_ <;> simp; done) | (exfalso; first | omega | (simp_all; done) | (simp_all; omega))
              all_goals first | exact main2 _ 0 (Nat.zero_add _) | (refine at2 main2 _ 0 (Nat.zero_add _) ?_ ?_ <;> simp; done) | (exfalso; first | omega | (simp_all; done) | (simp_all; omega))
            by_cases hu : u1 = 0
            · obtain ⟨rfl, rfl⟩ := hV1 hu
              obtain rfl := hi hu
              subst hu
              (((try simp (implicitDefEqProofs := false)); (try simp (implicitDefEqProofs := false) (disch := first | assumption | (try simp only [lens]); omega -splitDisjunctions))); all_goals try (repeat' ((first | ((with_reducible first | refine And.intro ?_ ?_ | refine Exists.intro ?_ ?_); first | omega | (simp <;> omega)) | (with_reducible refine spl (And.intro ?_ ?_) <;> intro _) | (refine CL.clo (htr) ?_) | (refine CM.clo (htr) ?_) | (refine CD.clo (htr) ?_)) <;> ((try simp (implicitDefEqProofs := false)); (try simp (implicitDefEqProofs := false) (disch := first | assumption | (try simp only [lens]); omega -splitDisjunctions))))))
              all_goals refine CL.giv [6] ?_
              all_goals ((((try simp (implicitDefEqProofs := false) [hMi]); (try simp (implicitDefEqProofs := false) (disch := first | assumption | (try simp only [lens]); omega -splitDisjunctions) [hMi])); all_goals try (repeat' ((first | ((with_reducible first | refine And.intro ?_ ?_ | refine Exists.intro ?_ ?_); first | omega | (simp <;> omega)) | (with_reducible refine spl (And.intro ?_ ?_) <;> intro _) | (refine CL.clo (hni) ?_) | (refine CM.clo (hni) ?_) | (refine CD.clo (hni) ?_)) <;> ((try simp (implicitDefEqProofs := false) [hMi]); (try simp (implicitDefEqProofs := false) (disch := first | assumption | (try simp only [lens]); omega -splitDisjunctions) [hMi]))))))
              all_goals exact key
            · obtain rfl := hV2 hu
              (((try simp (implicitDefEqProofs := false) [hu]); (try simp (implicitDefEqProofs := false) (disch := first | assumption | (try simp only [lens]); omega -splitDisjunctions) [hu])); all_goals try (repeat' ((first | ((with_reducible first | refine And.intro ?_ ?_ | refine Exists.intro ?_ ?_); first | omega | (simp <;> omega)) | (with_reducible refine spl (And.intro ?_ ?_) <;> intro _)) <;> ((try simp (implicitDefEqProofs := false) [hu]); (try simp (implicitDefEqProofs := false) (disch := first | assumption | (try simp only [lens]); omega -splitDisjunctions) [hu])))))
              all_goals refine CL.giv [6] ?_
              all_goals ((((try simp (implicitDefEqProofs := false) [hMi]); (try simp (implicitDefEqProofs := false) (disch := first | assumption | (try simp only [lens]); omega -splitDisjunctions) [hMi])); all_goals try (repeat' ((first | ((with_reducible first | refine And.intro ?_ ?_ | refine Exists.intro ?_ ?_); first | omega | (simp <;> omega)) | (with_reducible refine spl (And.intro ?_ ?_) <;> intro _) | (refine CL.clo (hni) ?_) | (refine CM.clo (hni) ?_) | (refine CD.clo (hni) ?_)) <;> ((try simp (implicitDefEqProofs := false) [hMi]); (try simp (implicitDefEqProofs := false) (disch := first | assumption | (try simp only [lens]); omega -splitDisjunctions) [hMi]))))))
              all_goals exact key
      · simp only [Prod.mk.injEq] at hV0
        obtain ⟨rfl, rfl, rfl⟩ := hV0
        exact ex 0 (fun h => by omega)
      · have main : ∀ r i, i + r = hs.length → nameBad hs 0 = nameBad (hs.drop i) i → Q [(1, .list (hs.map strRow)), (2, .ptr 0 0 0), (5, .bool v), (6, .ptr 1 0 0), (7, .list ((rowsV f).map boolRow)), (8, .ptr 2 0 0), (9, .bool (validV f).1), (10, .list ((validV f).2.map strRow)), (11, .ptr 3 0 0), (12, .ptr 4 0 0), (13, .ptr 5 0 0), (14, .int .i64 (i : Int))] [.rows 3 [frm f], .rows 2 [[.int .i64 u1, .int .i64 u2]], .rows 2 [[.int .i64 (fewV f).2.1, .int .i64 (fewV f).2.2]], .rows 2 [[.int .i64 (fewV f).2.1, .int .i64 (fewV f).2.2]], .rows 2 [[.int .i64 0, .int .i64 0]], .rows 2 [[.int .i64 0, .int .i64 0]]] := by
          intro r
          induction r with
          | zero =>
            intro i hi hb
            rw [List.drop_of_length_le (by omega), nameBad] at hb
            rw [hb] at hV0
            simp only [Prod.mk.injEq] at hV0
            obtain ⟨rfl, rfl, rfl⟩ := hV0
            exact ex i (fun _ => by omega)
          | succ r ih =>
            intro i hi hb
            have hil : i < hs.length := by omega
            have ih := ih (i + 1) (by omega)
            rw [nameBad_drop hil] at hb
            have hin := IsName_ref hs[i]
            generalize isNameB hs[i] = bn at *
            cases bn with
            | true =>
              have ih := ih (by simpa using hb)
              apply hQ
              clear hQ ex
              (((try simp (implicitDefEqProofs := false) [hil]); (try simp (implicitDefEqProofs := false) (disch := first | assumption | (try simp only [lens]); omega -splitDisjunctions) [hil])); all_goals try (repeat' ((first | ((with_reducible first | refine And.intro ?_ ?_ | refine Exists.intro ?_ ?_); first | omega | (simp <;> omega)) | (with_reducible refine spl (And.intro ?_ ?_) <;> intro _) | (refine CL.clo (hin) ?_) | (refine CM.clo (hin) ?_) | (refine CD.clo (hin) ?_)) <;> ((try simp (implicitDefEqProofs := false) [hil]); (try simp (implicitDefEqProofs := false) (disch := first | assumption | (try simp only [lens]); omega -splitDisjunctions) [hil])))))
              all_goals first | exact ih | (refine at2 ih ?_ ?_ <;> simp; done) | (exfalso; first | omega | (simp_all; done) | (simp_all; omega))
            | false =>
              rw [if_neg (by simp)] at hb
              rw [hb] at hV0
              simp only [Prod.mk.injEq] at hV0
              obtain ⟨rfl, rfl, rfl⟩ := hV0
              have ex := ex (i + 1) (fun h => by omega)
              apply hQ
              clear hQ ih
              (((try simp (implicitDefEqProofs := false) [hil]); (try simp (implicitDefEqProofs := false) (disch := first | assumption | (try simp only [lens]); omega -splitDisjunctions) [hil])); all_goals try (repeat' ((first | ((with_reducible first | refine And.intro ?_ ?_ | refine Exists.intro ?_ ?_); first | omega | (simp <;> omega)) | (with_reducible refine spl (And.intro ?_ ?_) <;> intro _) | (refine CL.clo (hin) ?_) | (refine CM.clo (hin) ?_) | (refine CD.clo (hin) ?_) | (refine CL.clo (hF 8 i) ?_) | (refine CM.clo (hF 8 i) ?_) | (refine CD.clo (hF 8 i) ?_)) <;> ((try simp (implicitDefEqProofs := false) [hil]); (try simp (implicitDefEqProofs := false) (disch := first | assumption | (try simp only [lens]); omega -splitDisjunctions) [hil])))))
              all_goals first | exact ex | (refine at2 ex ?_ ?_ <;> simp; done) | (exfalso; first | omega | (simp_all; done) | (simp_all; omega))
        all_goals first | exact main _ 0 (Nat.zero_add _) rfl | (refine at2 main _ 0 (Nat.zero_add _) rfl ?_ ?_ <;> simp; done) | (exfalso; first | omega | (simp_all; done) | (simp_all; omega))
    · have hV : valueV f hs = (false, plainF f) := by unfold valueV; rw [if_pos (by simpa using h1)]
      have hW : fewV f = ([], plainF f) := by unfold fewV; rw [if_pos (by simpa using h1)]
      have hR : rowsV f = [] := by unfold rowsV; rw [hW, if_pos h1]
      have hD : validV f = (false, []) := by unfold validV; rw [hW, if_pos h1]
      rw [hV] at hvl
      rw [hW, hR] at hrw
      rw [hW, hD] at hvd
      simp only [List.map_nil] at hrw hvd
      generalize plainF f = w at *
      (((try simp (implicitDefEqProofs := false)); (try simp (implicitDefEqProofs := false) (disch := first | assumption | (try simp only [lens]); omega -splitDisjunctions))); all_goals try (repeat' ((first | ((with_reducible first | refine And.intro ?_ ?_ | refine Exists.intro ?_ ?_); first | omega | (simp <;> omega)) | (with_reducible refine spl (And.intro ?_ ?_) <;> intro _) | (refine CL.clo (hbg0) ?_) | (refine CM.clo (hbg0) ?_) | (refine CD.clo (hbg0) ?_) | (refine CL.clo (hva) ?_) | (refine CM.clo (hva) ?_) | (refine CD.clo (hva) ?_) | (refine CL.clo (hvl) ?_) | (refine CM.clo (hvl) ?_) | (refine CD.clo (hvl) ?_) | (refine CL.clo (hrw) ?_) | (refine CM.clo (hrw) ?_) | (refine CD.clo (hrw) ?_) | (refine CL.clo (hvd) ?_) | (refine CM.clo (hvd) ?_) | (refine CD.clo (hvd) ?_)) <;> ((try simp (implicitDefEqProofs := false)); (try simp (implicitDefEqProofs := false) (disch := first | assumption | (try simp only [lens]); omega -splitDisjunctions))))))
      refine CL.giv [4] ?_
      (((try simp (implicitDefEqProofs := false) [h1]); (try simp (implicitDefEqProofs := false) (disch := first | assumption | (try simp only [lens]); omega -splitDisjunctions) [h1])); all_goals try (repeat' ((first | ((with_reducible first | refine And.intro ?_ ?_ | refine Exists.intro ?_ ?_); first | omega | (simp <;> omega)) | (with_reducible refine spl (And.intro ?_ ?_) <;> intro _) | (refine CL.clo (hpf) ?_) | (refine CM.clo (hpf) ?_) | (refine CD.clo (hpf) ?_)) <;> ((try simp (implicitDefEqProofs := false) [h1]); (try simp (implicitDefEqProofs := false) (disch := first | assumption | (try simp only [lens]); omega -splitDisjunctions) [h1])))))
      all_goals refine W_of fun Q hQ => ?_
      all_goals apply hQ
      all_goals clear hQ
      all_goals ((((try simp (implicitDefEqProofs := false) [h1]); (try simp (implicitDefEqProofs := false) (disch := first | assumption | (try simp only [lens]); omega -splitDisjunctions) [h1])); all_goals try (repeat' ((first | ((with_reducible first | refine And.intro ?_ ?_ | refine Exists.intro ?_ ?_); first | omega | (simp <;> omega)) | (with_reducible refine spl (And.intro ?_ ?_) <;> intro _)) <;> ((try simp (implicitDefEqProofs := false) [h1]); (try simp (implicitDefEqProofs := false) (disch := first | assumption | (try simp only [lens]); omega -splitDisjunctions) [h1]))))))
end Go.Proofs.Ytbmpmmbcfabeeaa
