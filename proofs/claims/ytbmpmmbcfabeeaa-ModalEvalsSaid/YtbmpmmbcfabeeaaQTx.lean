/-
  sequentlaw: ownModel.
-/
import Derived.Test.YtbmpmmbcfabeeaaQTw
namespace Go.Proofs.Ytbmpmmbcfabeeaa
open Go Go.Pv
set_option linter.unusedVariables false
set_option linter.unusedSimpArgs false
set_option maxRecDepth 100000
set_option maxHeartbeats 4000000

@[simp] theorem V2_any {C : WC} {V : List (Nat × Option Nat × Nat)} {T : List (Nat × Nat × Nat)} {L : List Nat} {e : AE} {s : Store} {q : AE → Store → Prop} : V2 C .any V T L e s q = G C V T L e s q := rfl
def x38_T1 : XC := .seq (.reg [⟨some 29,.load 61 (.tmp 3),none⟩,⟨none,.store 61 (.tmp 2) (.tmp 29),none⟩]) (.ret)
def x38_L0 : XC := .seq (.seq (.reg [⟨some 11,.move (.tmp 4),none⟩,⟨some 12,.fieldAddr 61 (.tmp 1) 2,none⟩,⟨some 13,.load 59 (.tmp 12),none⟩,⟨some 14,.call ⟨.builtin .len,#[.tmp 13],#[59]⟩,none⟩,⟨some 15,.binOp .lss 3 (.tmp 11) (.tmp 14) 3,none⟩]) (.cond (.tmp 15) (.skip) (.exit 0))) (.seq (.block 1 (.drawn 5 [⟨some 18,.fieldAddr 61 (.tmp 3) 2,none⟩,⟨some 19,.load 59 (.tmp 18),none⟩,⟨some 20,.fieldAddr 61 (.tmp 1) 2,none⟩,⟨some 21,.load 59 (.tmp 20),none⟩,⟨some 22,.move (.tmp 4),none⟩,⟨some 23,.indexAddr 59 (.tmp 21) (.tmp 22),none⟩,⟨some 24,.load 53 (.tmp 23),none⟩,⟨some 25,.call ⟨.builtin .append,#[.const (.slice none 0 0),.tmp 24],#[53,53]⟩,none⟩,⟨some 26,.buildSlice 59 1 #[(0,.tmp 25)],none⟩,⟨some 27,.call ⟨.builtin .append,#[.tmp 19,.tmp 26],#[59,59]⟩,none⟩,⟨some 28,.fieldAddr 61 (.tmp 3) 2,none⟩,⟨none,.store 59 (.tmp 28) (.tmp 27),none⟩])) (.reg [⟨some 16,.move (.tmp 4),none⟩,⟨some 17,.binOp .add 3 (.tmp 16) (.const (.int .i64 1)) 3,none⟩,⟨some 4,.assign (.tmp 17),none⟩]))
def x38 : XC := .seq (.reg [⟨some 1,.box 61 (.tmp 0),none⟩,⟨some 2,.alloc 61,none⟩]) (.seq (.drawn 1 [⟨some 5,.fieldAddr 61 (.tmp 1) 0,none⟩,⟨some 6,.load 3 (.tmp 5),none⟩,⟨some 7,.fieldAddr 61 (.tmp 1) 1,none⟩,⟨some 8,.load 58 (.tmp 7),none⟩,⟨some 9,.call ⟨.builtin .append,#[.const (.slice none 0 0),.tmp 8],#[58,58]⟩,none⟩,⟨some 10,.build 61 #[(0,.tmp 6),(1,.tmp 9)],none⟩,⟨some 3,.alloc 61,none⟩,⟨none,.store 61 (.tmp 3) (.tmp 10),none⟩]) (.seq (.seq (.reg [⟨some 4,.assign (.const (.int .i64 0)),none⟩]) (.bloop 0 x38_L0)) (x38_T1)))
@[simp] theorem x38_s {C : WC} {e : AE} {s : Store} {K : KS} : type_of% (@X_at C e s K _ _ x38_T1.eq_1) ∧ type_of% (@X_at C e s K _ _ x38_L0.eq_1) ∧ type_of% (@X_at C e s K _ _ x38.eq_1) := ⟨X_at x38_T1.eq_1, X_at x38_L0.eq_1, X_at x38.eq_1⟩
def an38 : Ann := ⟨[(1, .tree (.op 0 (.op 1 (.op 2 (.op 3 (.br (.op 4 (.ck 1 (.op 5 (.op 6 (.ck 1 (.ck 5 (.op 7 .fin))))))) (.op 6 (.ck 1 (.ck 3 (.op 4 (.ck 1 (.op 5 (.op 7 .fin))))))))))))), (5, .tree (.op 0 (.op 1 (.op 2 (.op 3 (.op 4 (.op 5 (.op 6 (.op 7 (.ck 1 (.op 8 (.ck 1 (.op 9 (.op 10 (.op 11 .fin)))))))))))))))], [(0, [(25, some 5000, 0), (3, some 2, 1)], [1, 2, 3, 4], [2, 3])], []⟩
def cx38 (P : Program) (m : Nat) : WC := ⟨P, m, an38⟩
@[simp] theorem cx38_a {P : Program} {m : Nat} : (cx38 P m).P = P ∧ (cx38 P m).m = m ∧ (cx38 P m).A.clsOf 1 = .tree (.op 0 (.op 1 (.op 2 (.op 3 (.br (.op 4 (.ck 1 (.op 5 (.op 6 (.ck 1 (.ck 5 (.op 7 .fin))))))) (.op 6 (.ck 1 (.ck 3 (.op 4 (.ck 1 (.op 5 (.op 7 .fin)))))))))))) ∧ (cx38 P m).A.clsOf 5 = .tree (.op 0 (.op 1 (.op 2 (.op 3 (.op 4 (.op 5 (.op 6 (.op 7 (.ck 1 (.op 8 (.ck 1 (.op 9 (.op 10 (.op 11 .fin)))))))))))))) ∧ (cx38 P m).A.frzOf 1 = [] ∧ (cx38 P m).A.frzOf 5 = [] ∧ (cx38 P m).A.loopOf 0 = ([(25, some 5000, 0), (3, some 2, 1)], [1, 2, 3, 4], [2, 3]) := ⟨rfl, rfl, rfl, rfl, rfl, rfl, rfl⟩
instance {P : Program} {m f : Nat} [h : EnT P f] : EnT (cx38 P m).P f := h
theorem chk38 : ∀ c, Try.f38.body = some c → chkC Try.f38.ntmps an38 c = true := by intro c h; obtain rfl := Option.some.inj h; decide +kernel
theorem os38 {args : List PV} {v : PV} (h : X (cx38 Try.prog 0) x38 (argsA 0 args) [] (.fin [.cell 2 61] fun v1 s1 => softV (deref s1 6 v1) = v)) (hl : args.length ≤ Try.f38.ntmps := by rw [Try.ntmps38]; simp) : CallOK Try.prog 38 args [] v [] :=
  callXF (m := 0) (cx38 Try.prog 0) x38 rfl rfl (by kernel_rfl) Try.func38 rfl rfl hl mixed (chk38 _ rfl) (by rw [Try.results38]; exact h)

theorem ownModel_law (m : Mdl) (h1 : m.rel.length * 16 ≤ 140737488351232) (h2 : m.tr.length * 24 ≤ 140737488351232) (h3 : ∀ r ∈ m.tr, r.length * 16 ≤ 140737488351232) : CallOK Try.prog 38 [.agg (mdl m)] [] (.agg (mdl m)) [] := by
  obtain ⟨n, E, L⟩ := m
  simp only [mdl]
  refine os38 ?_
  have hE : (∀ (row : List PV) (x y : Int), (x, y) ∈ E → [PV.int .i64 x, PV.int .i64 y] = row → row.length = 2 ∧ ∀ (x : PV), x ∈ row → isCell x = true) := by
    rintro row x y _ rfl; simp
  have hE2 : E.length * 16 ≤ 140737488355328 := by simp only at h1; omega
  (((try simp (implicitDefEqProofs := false) [relRow, hE2]); (try simp (implicitDefEqProofs := false) (disch := first | assumption | (try simp only [lens]); omega -splitDisjunctions) [relRow, hE2])); all_goals try (repeat' ((first | ((with_reducible first | refine And.intro ?_ ?_ | refine Exists.intro ?_ ?_); first | omega | (simp <;> omega)) | (with_reducible refine spl (And.intro ?_ ?_) <;> intro _)) <;> ((try simp (implicitDefEqProofs := false) [relRow, hE2]); (try simp (implicitDefEqProofs := false) (disch := first | assumption | (try simp only [lens]); omega -splitDisjunctions) [relRow, hE2])))))
  refine W_of fun Q hQ => ?_
  have main : ∀ r i, i + r = L.length → Q [(1, .ptr 0 0 0), (2, .ptr 1 0 0), (3, .ptr 2 0 0), (4, .int .i64 (i : Int))] [.rows 3 [[.int .i64 n, .list (E.map relRow), .list (L.map strsRow)]], .rows 3 [[.int .i64 0, .nilsl, .nilsl]], .rows 3 [[.int .i64 n, .sl 3 0 E.length, .sl 4 0 i]], .rows 2 (E.map relRow), .rows 1 ((L.take i).map strsRow)] := by
    intro r
    induction r with
    | zero =>
      intro i hi
      apply hQ
      (((try simp (implicitDefEqProofs := false)); (try simp (implicitDefEqProofs := false) (disch := first | assumption | (try simp only [lens]); omega -splitDisjunctions))); all_goals try (repeat' ((first | ((with_reducible first | refine And.intro ?_ ?_ | refine Exists.intro ?_ ?_); first | omega | (simp <;> omega)) | (with_reducible refine spl (And.intro ?_ ?_) <;> intro _)) <;> ((try simp (implicitDefEqProofs := false)); (try simp (implicitDefEqProofs := false) (disch := first | assumption | (try simp only [lens]); omega -splitDisjunctions))))))
      rw [List.take_of_length_le (by simp; omega)]
    | succ r ih =>
      intro i hi
      have hil : i < L.length := by omega
      have ih := ih (i + 1) (by omega)
      have hr := h3 _ (List.getElem_mem hil)
      apply hQ
      clear hQ
      (((try simp (implicitDefEqProofs := false) [hil]); (try simp (implicitDefEqProofs := false) (disch := first | assumption | (try simp only [lens]); omega -splitDisjunctions) [hil])); all_goals try (repeat' ((first | ((with_reducible first | refine And.intro ?_ ?_ | refine Exists.intro ?_ ?_); first | omega | (simp <;> omega)) | (with_reducible refine spl (And.intro ?_ ?_) <;> intro _)) <;> ((try simp (implicitDefEqProofs := false) [hil]); (try simp (implicitDefEqProofs := false) (disch := first | assumption | (try simp only [lens]); omega -splitDisjunctions) [hil])))))
      refine ⟨by simp only at h2; omega, at2 ih rfl ?_⟩
      rw [List.map_take, take_snoc (l := L.map strsRow) (i := i) (by simp; omega)]
      simp [strsRow]
  all_goals first | exact main _ 0 (Nat.zero_add _) | (refine at2 main _ 0 (Nat.zero_add _) ?_ ?_ <;> simp; done) | (exfalso; first | omega | (simp_all; done) | (simp_all; omega))
def x43_L2 : XC := .seq (.seq (.reg [⟨some 48,.move (.tmp 6),none⟩,⟨some 49,.fieldAddr 61 (.tmp 2) 2,none⟩,⟨some 50,.load 59 (.tmp 49),none⟩,⟨some 51,.call ⟨.builtin .len,#[.tmp 50],#[59]⟩,none⟩,⟨some 52,.binOp .lss 3 (.tmp 48) (.tmp 51) 3,none⟩]) (.cond (.tmp 52) (.skip) (.exit 2))) (.seq (.block 3 (.seq (.drawn 11 [⟨some 55,.fieldAddr 61 (.tmp 2) 2,none⟩,⟨some 56,.load 59 (.tmp 55),none⟩,⟨some 57,.move (.tmp 6),none⟩,⟨some 58,.indexAddr 59 (.tmp 56) (.tmp 57),none⟩,⟨some 59,.load 53 (.tmp 58),none⟩,⟨some 60,.fieldAddr 61 (.tmp 3) 2,none⟩,⟨some 61,.load 59 (.tmp 60),none⟩,⟨some 62,.move (.tmp 6),none⟩,⟨some 63,.indexAddr 59 (.tmp 61) (.tmp 62),none⟩,⟨some 64,.load 53 (.tmp 63),none⟩,⟨some 65,.call ⟨.value (.func 59),#[.tmp 59,.tmp 64],#[53,53]⟩,none⟩,⟨some 66,.unOp .not 4 (.tmp 65),none⟩]) (.cond (.tmp 66) (.seq (.reg [⟨some 4,.assign (.const (.bool false)),none⟩]) (.ret)) (.skip)))) (.reg [⟨some 53,.move (.tmp 6),none⟩,⟨some 54,.binOp .add 3 (.tmp 53) (.const (.int .i64 1)) 3,none⟩,⟨some 6,.assign (.tmp 54),none⟩]))
def x43_T1 : XC := .seq (.seq (.reg [⟨some 6,.assign (.const (.int .i64 0)),none⟩]) (.bloop 2 x43_L2)) (.seq (.reg [⟨some 4,.assign (.const (.bool true)),none⟩]) (.ret))
def x43_L0 : XC := .seq (.seq (.reg [⟨some 30,.move (.tmp 5),none⟩,⟨some 31,.fieldAddr 61 (.tmp 2) 1,none⟩,⟨some 32,.load 58 (.tmp 31),none⟩,⟨some 33,.call ⟨.builtin .len,#[.tmp 32],#[58]⟩,none⟩,⟨some 34,.binOp .lss 3 (.tmp 30) (.tmp 33) 3,none⟩]) (.cond (.tmp 34) (.skip) (.exit 0))) (.seq (.block 1 (.seq (.drawn 6 [⟨some 37,.fieldAddr 61 (.tmp 2) 1,none⟩,⟨some 38,.load 58 (.tmp 37),none⟩,⟨some 39,.move (.tmp 5),none⟩,⟨some 40,.indexAddr 58 (.tmp 38) (.tmp 39),none⟩,⟨some 41,.load 130 (.tmp 40),none⟩,⟨some 42,.fieldAddr 61 (.tmp 3) 1,none⟩,⟨some 43,.load 58 (.tmp 42),none⟩,⟨some 44,.move (.tmp 5),none⟩,⟨some 45,.indexAddr 58 (.tmp 43) (.tmp 44),none⟩,⟨some 46,.load 130 (.tmp 45),none⟩,⟨some 47,.binOp .neq 130 (.tmp 41) (.tmp 46) 130,none⟩]) (.cond (.tmp 47) (.seq (.reg [⟨some 4,.assign (.const (.bool false)),none⟩]) (.ret)) (.skip)))) (.reg [⟨some 35,.move (.tmp 5),none⟩,⟨some 36,.binOp .add 3 (.tmp 35) (.const (.int .i64 1)) 3,none⟩,⟨some 5,.assign (.tmp 36),none⟩]))
def x43 : XC := .seq (.reg [⟨some 2,.box 61 (.tmp 0),none⟩,⟨some 3,.box 61 (.tmp 1),none⟩,⟨some 4,.assign (.const (.bool false)),none⟩]) (.seq (.seq (.reg [⟨some 7,.fieldAddr 61 (.tmp 2) 0,none⟩,⟨some 8,.load 3 (.tmp 7),none⟩,⟨some 9,.fieldAddr 61 (.tmp 3) 0,none⟩,⟨some 10,.load 3 (.tmp 9),none⟩,⟨some 11,.binOp .neq 3 (.tmp 8) (.tmp 10) 3,none⟩,⟨some 12,.move (.tmp 11),none⟩,⟨some 13,.fieldAddr 61 (.tmp 2) 1,some (some 12,false)⟩,⟨some 14,.load 58 (.tmp 13),some (some 12,false)⟩,⟨some 15,.call ⟨.builtin .len,#[.tmp 14],#[58]⟩,some (some 12,false)⟩,⟨some 16,.fieldAddr 61 (.tmp 3) 1,some (some 12,false)⟩,⟨some 17,.load 58 (.tmp 16),some (some 12,false)⟩,⟨some 18,.call ⟨.builtin .len,#[.tmp 17],#[58]⟩,some (some 12,false)⟩,⟨some 19,.binOp .neq 3 (.tmp 15) (.tmp 18) 3,some (some 12,false)⟩,⟨some 20,.pick (.tmp 12) (.const (.bool true)) (.tmp 19),none⟩,⟨some 21,.move (.tmp 20),none⟩,⟨some 22,.fieldAddr 61 (.tmp 2) 2,some (some 21,false)⟩,⟨some 23,.load 59 (.tmp 22),some (some 21,false)⟩,⟨some 24,.call ⟨.builtin .len,#[.tmp 23],#[59]⟩,some (some 21,false)⟩,⟨some 25,.fieldAddr 61 (.tmp 3) 2,some (some 21,false)⟩,⟨some 26,.load 59 (.tmp 25),some (some 21,false)⟩,⟨some 27,.call ⟨.builtin .len,#[.tmp 26],#[59]⟩,some (some 21,false)⟩,⟨some 28,.binOp .neq 3 (.tmp 24) (.tmp 27) 3,some (some 21,false)⟩,⟨some 29,.pick (.tmp 21) (.const (.bool true)) (.tmp 28),none⟩]) (.cond (.tmp 29) (.seq (.reg [⟨some 4,.assign (.const (.bool false)),none⟩]) (.ret)) (.skip))) (.seq (.seq (.reg [⟨some 5,.assign (.const (.int .i64 0)),none⟩]) (.bloop 0 x43_L0)) (x43_T1)))
@[simp] theorem x43_s {C : WC} {e : AE} {s : Store} {K : KS} : type_of% (@X_at C e s K _ _ x43_L2.eq_1) ∧ type_of% (@X_at C e s K _ _ x43_T1.eq_1) ∧ type_of% (@X_at C e s K _ _ x43_L0.eq_1) ∧ type_of% (@X_at C e s K _ _ x43.eq_1) := ⟨X_at x43_L2.eq_1, X_at x43_T1.eq_1, X_at x43_L0.eq_1, X_at x43.eq_1⟩
def an43 : Ann := ⟨[(11, .mix 10)], [(2, [], [2, 3, 6], [4]), (0, [], [2, 3, 5], [2, 3, 4])], []⟩
def cx43 (P : Program) (m : Nat) : WC := ⟨P, m, an43⟩
@[simp] theorem cx43_a {P : Program} {m : Nat} : (cx43 P m).P = P ∧ (cx43 P m).m = m ∧ (cx43 P m).A.clsOf 6 = .draw ∧ (cx43 P m).A.clsOf 11 = .mix 10 ∧ (cx43 P m).A.frzOf 6 = [] ∧ (cx43 P m).A.frzOf 11 = [] ∧ (cx43 P m).A.loopOf 2 = ([], [2, 3, 6], [4]) ∧ (cx43 P m).A.loopOf 0 = ([], [2, 3, 5], [2, 3, 4]) := ⟨rfl, rfl, rfl, rfl, rfl, rfl, rfl, rfl⟩
instance {P : Program} {m f : Nat} [h : EnT P f] : EnT (cx43 P m).P f := h
theorem chk43 : ∀ c, Try.f43.body = some c → chkC Try.f43.ntmps an43 c = true := by intro c h; obtain rfl := Option.some.inj h; decide +kernel
theorem op43 {args : List PV} {v : PV} (h : X (cx43 Try.prog 0) x43 (argsA 0 args) [] (.fin [.tmp 4] fun v1 s1 => deref s1 6 v1 = v)) (hl : args.length ≤ Try.f43.ntmps := by rw [Try.ntmps43]; simp) : CallOK Try.prog 43 args [] v [] :=
  callX (m := 0) (cx43 Try.prog 0) x43 rfl rfl (by kernel_rfl) Try.func43 rfl rfl hl mixed (chk43 _ rfl) (by rw [Try.results43]; exact h)

theorem sameModel_self (m : Mdl) : CallOK Try.prog 43 [.agg (mdl m), .agg (mdl m)] [] (.bool true) [] := by
  obtain ⟨n, E, L⟩ := m
  simp only [mdl]
  have ht := fun r : List ByteArray => Texts_ref r r
  simp only [decide_true] at ht
  refine op43 ?_
  (((try simp (implicitDefEqProofs := false)); (try simp (implicitDefEqProofs := false) (disch := first | assumption | (try simp only [lens]); omega -splitDisjunctions))); all_goals try (repeat' ((first | ((with_reducible first | refine And.intro ?_ ?_ | refine Exists.intro ?_ ?_); first | omega | (simp <;> omega)) | (with_reducible refine spl (And.intro ?_ ?_) <;> intro _)) <;> ((try simp (implicitDefEqProofs := false)); (try simp (implicitDefEqProofs := false) (disch := first | assumption | (try simp only [lens]); omega -splitDisjunctions))))))
  refine W_of fun Q hQ => ?_
  have main : ∀ r i, i + r = E.length → Q [(2, .ptr 0 0 0), (3, .ptr 1 0 0), (5, .int .i64 (i : Int))] [.rows 3 [[.int .i64 n, .list (E.map relRow), .list (L.map strsRow)]], .rows 3 [[.int .i64 n, .list (E.map relRow), .list (L.map strsRow)]]] := by
    intro r
    induction r with
    | zero =>
      intro i hi
      apply hQ
      clear hQ
      (((try simp (implicitDefEqProofs := false)); (try simp (implicitDefEqProofs := false) (disch := first | assumption | (try simp only [lens]); omega -splitDisjunctions))); all_goals try (repeat' ((first | ((with_reducible first | refine And.intro ?_ ?_ | refine Exists.intro ?_ ?_); first | omega | (simp <;> omega)) | (with_reducible refine spl (And.intro ?_ ?_) <;> intro _)) <;> ((try simp (implicitDefEqProofs := false)); (try simp (implicitDefEqProofs := false) (disch := first | assumption | (try simp only [lens]); omega -splitDisjunctions))))))
      refine W_of fun Q2 hQ2 => ?_
      have main2 : ∀ r i, i + r = L.length → Q2 [(2, .ptr 0 0 0), (3, .ptr 1 0 0), (6, .int .i64 (i : Int))] [.rows 3 [[.int .i64 n, .list (E.map relRow), .list (L.map strsRow)]], .rows 3 [[.int .i64 n, .list (E.map relRow), .list (L.map strsRow)]]] := by
        intro r
        induction r with
        | zero =>
          intro i hi
          apply hQ2
          (((try simp (implicitDefEqProofs := false)); (try simp (implicitDefEqProofs := false) (disch := first | assumption | (try simp only [lens]); omega -splitDisjunctions))); all_goals try (repeat' ((first | ((with_reducible first | refine And.intro ?_ ?_ | refine Exists.intro ?_ ?_); first | omega | (simp <;> omega)) | (with_reducible refine spl (And.intro ?_ ?_) <;> intro _)) <;> ((try simp (implicitDefEqProofs := false)); (try simp (implicitDefEqProofs := false) (disch := first | assumption | (try simp only [lens]); omega -splitDisjunctions))))))
        | succ r ih =>
          intro i hi
          have hil : i < L.length := by omega
          have ih := ih (i + 1) (by omega)
          have ht := ht L[i]
          apply hQ2
          clear hQ2
          (((try simp (implicitDefEqProofs := false) [hil, strsRow]); (try simp (implicitDefEqProofs := false) (disch := first | assumption | (try simp only [lens]); omega -splitDisjunctions) [hil, strsRow])); all_goals try (repeat' ((first | ((with_reducible first | refine And.intro ?_ ?_ | refine Exists.intro ?_ ?_); first | omega | (simp <;> omega)) | (with_reducible refine spl (And.intro ?_ ?_) <;> intro _) | (refine CL.clo (ht) ?_) | (refine CM.clo (ht) ?_) | (refine CD.clo (ht) ?_)) <;> ((try simp (implicitDefEqProofs := false) [hil, strsRow]); (try simp (implicitDefEqProofs := false) (disch := first | assumption | (try simp only [lens]); omega -splitDisjunctions) [hil, strsRow])))))
          all_goals first | exact ih | (refine at2 ih ?_ ?_ <;> simp; done) | (exfalso; first | omega | (simp_all; done) | (simp_all; omega))
      all_goals first | exact main2 _ 0 (Nat.zero_add _) | (refine at2 main2 _ 0 (Nat.zero_add _) ?_ ?_ <;> simp; done) | (exfalso; first | omega | (simp_all; done) | (simp_all; omega))
    | succ r ih =>
      intro i hi
      have hil : i < E.length := by omega
      have ih := ih (i + 1) (by omega)
      apply hQ
      clear hQ
      (((try simp (implicitDefEqProofs := false) [hil, relRow]); (try simp (implicitDefEqProofs := false) (disch := first | assumption | (try simp only [lens]); omega -splitDisjunctions) [hil, relRow])); all_goals try (repeat' ((first | ((with_reducible first | refine And.intro ?_ ?_ | refine Exists.intro ?_ ?_); first | omega | (simp <;> omega)) | (with_reducible refine spl (And.intro ?_ ?_) <;> intro _)) <;> ((try simp (implicitDefEqProofs := false) [hil, relRow]); (try simp (implicitDefEqProofs := false) (disch := first | assumption | (try simp only [lens]); omega -splitDisjunctions) [hil, relRow])))))
      all_goals first | exact ih | (refine at2 ih ?_ ?_ <;> simp; done) | (exfalso; first | omega | (simp_all; done) | (simp_all; omega))
  all_goals first | exact main _ 0 (Nat.zero_add _) | (refine at2 main _ 0 (Nat.zero_add _) ?_ ?_ <;> simp; done) | (exfalso; first | omega | (simp_all; done) | (simp_all; omega))
end Go.Proofs.Ytbmpmmbcfabeeaa
