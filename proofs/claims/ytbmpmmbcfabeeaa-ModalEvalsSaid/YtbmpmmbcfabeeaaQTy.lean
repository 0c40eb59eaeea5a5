/-
  sequentref: Everywhere.
-/
import Derived.Test.YtbmpmmbcfabeeaaMeP
namespace Go.Proofs.Ytbmpmmbcfabeeaa
open Go Go.Pv
set_option linter.unusedVariables false
set_option linter.unusedSimpArgs false
set_option maxRecDepth 100000
set_option maxHeartbeats 4000000

theorem all_drop {p : Nat → Bool} {M k : Nat} (hk : k < M) : ((List.range M).drop k).all p = (p k && ((List.range M).drop (k + 1)).all p) := by
  rw [List.drop_eq_getElem_cons (by simpa using hk), List.all_cons, List.getElem_range]
theorem id_drop {l : List Bool} {k : Nat} (hk : k < l.length) : (l.drop k).all id = (l[k] && (l.drop (k + 1)).all id) := by
  rw [List.drop_eq_getElem_cons hk, List.all_cons]; rfl
def x49_L4 : XC := .seq (.seq (.reg [⟨some 57,.move (.tmp 11),none⟩,⟨some 58,.fieldAddr 61 (.tmp 2) 0,none⟩,⟨some 59,.load 3 (.tmp 58),none⟩,⟨some 60,.binOp .lss 3 (.tmp 57) (.tmp 59) 3,none⟩]) (.cond (.tmp 60) (.skip) (.exit 4))) (.seq (.block 5 (.seq (.reg [⟨some 63,.move (.tmp 10),none⟩,⟨some 64,.move (.tmp 11),none⟩,⟨some 65,.indexAddr 46 (.tmp 63) (.tmp 64),none⟩,⟨some 66,.load 4 (.tmp 65),none⟩,⟨some 67,.unOp .not 4 (.tmp 66),none⟩]) (.cond (.tmp 67) (.seq (.reg [⟨some 4,.assign (.const (.bool false)),none⟩]) (.ret)) (.skip)))) (.reg [⟨some 61,.move (.tmp 11),none⟩,⟨some 62,.binOp .add 3 (.tmp 61) (.const (.int .i64 1)) 3,none⟩,⟨some 11,.assign (.tmp 62),none⟩]))
def x49_T2 : XC := .seq (.reg [⟨some 54,.load 61 (.tmp 8),none⟩,⟨some 55,.load 24 (.tmp 3),none⟩,⟨some 56,.call ⟨.value (.func 46),#[.tmp 54,.tmp 55],#[61,24]⟩,none⟩,⟨some 10,.assign (.tmp 56),none⟩]) (.seq (.reg [⟨some 11,.assign (.const (.int .i64 0)),none⟩]) (.bloop 4 x49_L4))
def x49_L2 : XC := .seq (.seq (.reg [⟨some 31,.move (.tmp 9),none⟩,⟨some 32,.fieldAddr 61 (.tmp 2) 0,none⟩,⟨some 33,.load 3 (.tmp 32),none⟩,⟨some 34,.binOp .lss 3 (.tmp 31) (.tmp 33) 3,none⟩]) (.cond (.tmp 34) (.skip) (.exit 2))) (.seq (.block 3 (.drawn 10 [⟨some 37,.fieldAddr 61 (.tmp 8) 2,none⟩,⟨some 38,.load 59 (.tmp 37),none⟩,⟨some 39,.move (.tmp 5),none⟩,⟨some 40,.move (.tmp 7),none⟩,⟨some 41,.move (.tmp 9),none⟩,⟨some 42,.move (.tmp 5),none⟩,⟨some 43,.call ⟨.builtin .len,#[.tmp 42],#[53]⟩,none⟩,⟨some 44,.binOp .mul 3 (.tmp 41) (.tmp 43) 3,none⟩,⟨some 45,.binOp .shr 3 (.tmp 40) (.tmp 44) 3,none⟩,⟨some 46,.move (.tmp 5),none⟩,⟨some 47,.call ⟨.builtin .len,#[.tmp 46],#[53]⟩,none⟩,⟨some 48,.binOp .shl 3 (.const (.int .i64 1)) (.tmp 47) 3,none⟩,⟨some 49,.binOp .rem 3 (.tmp 45) (.tmp 48) 3,none⟩,⟨some 50,.call ⟨.value (.func 57),#[.tmp 39,.tmp 49],#[53,3]⟩,none⟩,⟨some 51,.buildSlice 59 1 #[(0,.tmp 50)],none⟩,⟨some 52,.call ⟨.builtin .append,#[.tmp 38,.tmp 51],#[59,59]⟩,none⟩,⟨some 53,.fieldAddr 61 (.tmp 8) 2,none⟩,⟨none,.store 59 (.tmp 53) (.tmp 52),none⟩])) (.reg [⟨some 35,.move (.tmp 9),none⟩,⟨some 36,.binOp .add 3 (.tmp 35) (.const (.int .i64 1)) 3,none⟩,⟨some 9,.assign (.tmp 36),none⟩]))
def x49_L0 : XC := .seq (.seq (.reg [⟨some 20,.move (.tmp 7),none⟩,⟨some 21,.move (.tmp 6),none⟩,⟨some 22,.binOp .shl 3 (.const (.int .i64 1)) (.tmp 21) 3,none⟩,⟨some 23,.binOp .lss 3 (.tmp 20) (.tmp 22) 3,none⟩]) (.cond (.tmp 23) (.skip) (.exit 0))) (.seq (.block 1 (.seq (.reg [⟨some 26,.fieldAddr 61 (.tmp 2) 0,none⟩,⟨some 27,.load 3 (.tmp 26),none⟩,⟨some 28,.fieldAddr 61 (.tmp 2) 1,none⟩,⟨some 29,.load 58 (.tmp 28),none⟩,⟨some 30,.build 61 #[(0,.tmp 27),(1,.tmp 29)],none⟩,⟨some 8,.alloc 61,none⟩,⟨none,.store 61 (.tmp 8) (.tmp 30),none⟩]) (.seq (.seq (.reg [⟨some 9,.assign (.const (.int .i64 0)),none⟩]) (.bloop 2 x49_L2)) (x49_T2)))) (.reg [⟨some 24,.move (.tmp 7),none⟩,⟨some 25,.binOp .add 3 (.tmp 24) (.const (.int .i64 1)) 3,none⟩,⟨some 7,.assign (.tmp 25),none⟩]))
def x49 : XC := .seq (.reg [⟨some 2,.box 61 (.tmp 0),none⟩,⟨some 3,.box 24 (.tmp 1),none⟩,⟨some 4,.assign (.const (.bool false)),none⟩]) (.seq (.reg [⟨some 12,.load 24 (.tmp 3),none⟩,⟨some 13,.buildSlice 22 1 #[(0,.tmp 12)],none⟩,⟨some 14,.call ⟨.value (.func 47),#[.tmp 13],#[22]⟩,none⟩,⟨some 5,.assign (.tmp 14),none⟩]) (.seq (.reg [⟨some 15,.fieldAddr 61 (.tmp 2) 0,none⟩,⟨some 16,.load 3 (.tmp 15),none⟩,⟨some 17,.move (.tmp 5),none⟩,⟨some 18,.call ⟨.builtin .len,#[.tmp 17],#[53]⟩,none⟩,⟨some 19,.binOp .mul 3 (.tmp 16) (.tmp 18) 3,none⟩,⟨some 6,.assign (.tmp 19),none⟩]) (.seq (.seq (.reg [⟨some 7,.assign (.const (.int .i64 0)),none⟩]) (.bloop 0 x49_L0)) (.seq (.reg [⟨some 4,.assign (.const (.bool true)),none⟩]) (.ret)))))
@[simp] theorem x49_s {C : WC} {e : AE} {s : Store} {K : KS} : type_of% (@X_at C e s K _ _ x49_L4.eq_1) ∧ type_of% (@X_at C e s K _ _ x49_T2.eq_1) ∧ type_of% (@X_at C e s K _ _ x49_L2.eq_1) ∧ type_of% (@X_at C e s K _ _ x49_L0.eq_1) ∧ type_of% (@X_at C e s K _ _ x49.eq_1) := ⟨X_at x49_L4.eq_1, X_at x49_T2.eq_1, X_at x49_L2.eq_1, X_at x49_L0.eq_1, X_at x49.eq_1⟩
def an49 : Ann := ⟨[(10, .mix 15)], [(4, [], [2, 3, 5, 6, 7, 10, 11], [2, 3, 4, 5, 6, 7]), (2, [(8, some 2, 1)], [2, 3, 5, 6, 7, 8, 9], [2, 3, 5, 6, 7, 8]), (0, [], [2, 3, 5, 6, 7], [4])], []⟩
def cx49 (P : Program) (m : Nat) : WC := ⟨P, m, an49⟩
@[simp] theorem cx49_a {P : Program} {m : Nat} : (cx49 P m).P = P ∧ (cx49 P m).m = m ∧ (cx49 P m).A.clsOf 10 = .mix 15 ∧ (cx49 P m).A.frzOf 10 = [] ∧ (cx49 P m).A.loopOf 4 = ([], [2, 3, 5, 6, 7, 10, 11], [2, 3, 4, 5, 6, 7]) ∧ (cx49 P m).A.loopOf 2 = ([(8, some 2, 1)], [2, 3, 5, 6, 7, 8, 9], [2, 3, 5, 6, 7, 8]) ∧ (cx49 P m).A.loopOf 0 = ([], [2, 3, 5, 6, 7], [4]) := ⟨rfl, rfl, rfl, rfl, rfl, rfl, rfl⟩
instance {P : Program} {m f : Nat} [h : EnT P f] : EnT (cx49 P m).P f := h
theorem chk49 : ∀ c, Try.f49.body = some c → chkC Try.f49.ntmps an49 c = true := by intro c h; obtain rfl := Option.some.inj h; decide +kernel
theorem op49 {args : List PV} {v : PV} (h : X (cx49 Try.prog 0) x49 (argsA 0 args) [] (.fin [.tmp 4] fun v1 s1 => deref s1 6 v1 = v)) (hl : args.length ≤ Try.f49.ntmps := by rw [Try.ntmps49]; simp) : CallOK Try.prog 49 args [] v [] :=
  callX (m := 0) (cx49 Try.prog 0) x49 rfl rfl (by kernel_rfl) Try.func49 rfl rfl hl mixed (chk49 _ rfl) (by rw [Try.results49]; exact h)

theorem Everywhere_ref (m : Mdl) (n : Nat) (hm : MdOK m n) (f : Fm) (h : (formulaCheck f).1 = 0) (h8 : n * (namesF f).length ≤ 8) (h1 : 1 ≤ n) (h40 : n ≤ 40) :
    CallOK Try.prog 49 [.agg (mdl m), .agg (frm f)] [] (.bool (evryB m n (namesF f) f)) [] := by
  have hn := NamesIn_ref f
  rw [namesIn_eq h] at hn
  have hat := fun k => AllAt_ref (rowM m n (namesF f) k) n ⟨rfl, hm.small, hm.rel⟩ (by simp [rowM]) f (td_check h).ok
  obtain ⟨mn, rel, tr⟩ := m
  obtain ⟨hmn, hs, hrel⟩ := hm
  simp only at hmn hrel
  subst hmn
  have hlen : (namesF f).length ≤ 8 := Nat.le_trans (Nat.le_mul_of_pos_left _ (by omega)) h8
  unfold evryB
  generalize namesF f = ns at *
  have hsh := shl_nat (n * ns.length) (by omega)
  have hsl := shl_nat ns.length (by omega)
  have hM : 2 ^ (n * ns.length) ≤ 256 := Nat.le_trans (Nat.pow_le_pow_right (by decide) h8) (by decide)
  have hR1 : 2 ^ ns.length ≤ 256 := Nat.le_trans (Nat.pow_le_pow_right (by decide) hlen) (by decide)
  have hR0 : 1 ≤ 2 ^ ns.length := Nat.one_le_two_pow
  have hmu : (n : Int) * (ns.length : Int) = ((n * ns.length : Nat) : Int) := by simp
  have hmw : ∀ w : Nat, w < n → (w : Int) * (ns.length : Int) = ((w * ns.length : Nat) : Int) ∧ w * ns.length ≤ 8 := fun w hw => ⟨by simp, Nat.le_trans (Nat.mul_le_mul_right _ (by omega)) h8⟩
  unfold rowM at hat ⊢
  simp only at hat ⊢
  generalize 2 ^ (n * ns.length) = M at *
  generalize n * ns.length = q at *
  have hro : ∀ w k, w < n → k < M → ∃ (y : Nat), y = k / 2 ^ (w * ns.length) % 2 ^ ns.length ∧ (shrI .i64 (k : Int) ((w * ns.length : Nat) : Int)).tmod ((2 ^ ns.length : Nat) : Int) = (y : Int) ∧ y ≤ 256 ∧ (shrI .i64 (k : Int) ((w * ns.length : Nat) : Int)) ≤ 256 ∧ 0 ≤ (shrI .i64 (k : Int) ((w * ns.length : Nat) : Int)) := by
    intro w k hw hk
    have hq : k / 2 ^ (w * ns.length) ≤ k := Nat.div_le_self _ _
    refine ⟨_, rfl, ?_, ?_, ?_, ?_⟩
    · rw [shr_nat _ _ (by omega)]; rfl
    · exact Nat.le_trans (Nat.mod_le _ _) (by omega)
    · rw [shr_nat _ _ (by omega)]; exact_mod_cast (by omega : k / 2 ^ (w * ns.length) ≤ 256)
    · rw [shr_nat _ _ (by omega)]; exact Int.natCast_nonneg _
  have hrow := fun y (hy : y ≤ 256) => Row_ref ns (by omega) y (by omega)
  generalize hR : 2 ^ ns.length = r2 at *
  generalize hP : (fun k => (atB ⟨n, rel, (List.range n).map fun w => rowL ns (k / 2 ^ (w * ns.length) % r2)⟩ n f).all id) = P at *
  refine op49 ?_
  have hq : q ≤ 8 := h8
  (((try simp (implicitDefEqProofs := false)); (try simp (implicitDefEqProofs := false) (disch := first | assumption | (try simp only [lens]); omega -splitDisjunctions))); all_goals try (repeat' ((first | ((with_reducible first | refine And.intro ?_ ?_ | refine Exists.intro ?_ ?_); first | omega | (simp <;> omega)) | (with_reducible refine spl (And.intro ?_ ?_) <;> intro _)) <;> ((try simp (implicitDefEqProofs := false)); (try simp (implicitDefEqProofs := false) (disch := first | assumption | (try simp only [lens]); omega -splitDisjunctions))))))
  refine CL.giv [2] ?_
  (((try simp (implicitDefEqProofs := false) [hmu]); (try simp (implicitDefEqProofs := false) (disch := first | assumption | (try simp only [lens]); omega -splitDisjunctions) [hmu])); all_goals try (repeat' ((first | ((with_reducible first | refine And.intro ?_ ?_ | refine Exists.intro ?_ ?_); first | omega | (simp <;> omega)) | (with_reducible refine spl (And.intro ?_ ?_) <;> intro _) | (refine CL.clo (hn) ?_) | (refine CM.clo (hn) ?_) | (refine CD.clo (hn) ?_)) <;> ((try simp (implicitDefEqProofs := false) [hmu]); (try simp (implicitDefEqProofs := false) (disch := first | assumption | (try simp only [lens]); omega -splitDisjunctions) [hmu])))))
  refine W_of fun Q hQ => ?_
  have main : ∀ r k, k + r = M → (List.range M).all P = ((List.range M).drop k).all P → Q [(2, .ptr 0 0 0), (3, .ptr 1 0 0), (5, .list (ns.map strRow)), (6, .int .i64 (q : Int)), (7, .int .i64 (k : Int))] [.rows 3 [[.int .i64 n, .list (rel.map relRow), .list (tr.map strsRow)]], .rows 3 [frm f]] := by
    intro r
    induction r with
    | zero =>
      intro k hk hv
      rw [List.drop_of_length_le (by simp; omega), List.all_nil] at hv
      apply hQ
      clear hQ
      rw [hv]
      (((try simp (implicitDefEqProofs := false) [hsh]); (try simp (implicitDefEqProofs := false) (disch := first | assumption | (try simp only [lens]); omega -splitDisjunctions) [hsh])); all_goals try (repeat' ((first | ((with_reducible first | refine And.intro ?_ ?_ | refine Exists.intro ?_ ?_); first | omega | (simp <;> omega)) | (with_reducible refine spl (And.intro ?_ ?_) <;> intro _)) <;> ((try simp (implicitDefEqProofs := false) [hsh]); (try simp (implicitDefEqProofs := false) (disch := first | assumption | (try simp only [lens]); omega -splitDisjunctions) [hsh])))))
    | succ r ih =>
      intro k hk hv
      have hkM : k < M := by omega
      have ih := ih (k + 1) (by omega)
      rw [all_drop hkM] at hv
      generalize (List.range M).all P = A at *
      generalize ((List.range M).drop (k + 1)).all P = B at *
      have hro := fun w hw => hro w k hw hkM
      have hat := hat k
      apply hQ
      clear hQ
      (((try simp (implicitDefEqProofs := false) [hsh, hkM]); (try simp (implicitDefEqProofs := false) (disch := first | assumption | (try simp only [lens]); omega -splitDisjunctions) [hsh, hkM])); all_goals try (repeat' ((first | ((with_reducible first | refine And.intro ?_ ?_ | refine Exists.intro ?_ ?_); first | omega | (simp <;> omega)) | (with_reducible refine spl (And.intro ?_ ?_) <;> intro _)) <;> ((try simp (implicitDefEqProofs := false) [hsh, hkM]); (try simp (implicitDefEqProofs := false) (disch := first | assumption | (try simp only [lens]); omega -splitDisjunctions) [hsh, hkM])))))
      refine W_of fun Q2 hQ2 => ?_
      have main2 : ∀ j w, w + j = n → Q2 [(2, .ptr 0 0 0), (3, .ptr 1 0 0), (5, .list (ns.map strRow)), (6, .int .i64 (q : Int)), (7, .int .i64 (k : Int)), (8, .ptr 2 0 0), (9, .int .i64 (w : Int))] [.rows 3 [[.int .i64 n, .list (rel.map relRow), .list (tr.map strsRow)]], .rows 3 [frm f], .rows 3 [[.int .i64 n, .list (rel.map relRow), .sl 3 0 w]], .rows 1 (((List.range w).map fun w => rowL ns (k / 2 ^ (w * ns.length) % r2)).map strsRow)] := by
        intro j
        induction j with
        | zero =>
          intro w hw
          obtain rfl : w = n := by omega
          apply hQ2
          clear hQ2
          have htk : ∀ g : Nat → List PV, (List.map g (List.range w)).take w = List.map g (List.range w) := fun g => List.take_of_length_le (by simp)
          have hbl := atB_length (m := ⟨w, rel, (List.range w).map fun w => rowL ns (k / 2 ^ (w * ns.length) % r2)⟩) (n := w) (f := f)
          rw [← hP] at hv
          dsimp only at hv
          simp only [mdl, List.map_map] at hat
          generalize atB ⟨w, rel, (List.range w).map fun w => rowL ns (k / 2 ^ (w * ns.length) % r2)⟩ w f = Bs at *
          (((try simp (implicitDefEqProofs := false)); (try simp (implicitDefEqProofs := false) (disch := first | assumption | (try simp only [lens]); omega -splitDisjunctions))); all_goals try (repeat' ((first | ((with_reducible first | refine And.intro ?_ ?_ | refine Exists.intro ?_ ?_); first | omega | (simp <;> omega)) | (with_reducible refine spl (And.intro ?_ ?_) <;> intro _)) <;> ((try simp (implicitDefEqProofs := false)); (try simp (implicitDefEqProofs := false) (disch := first | assumption | (try simp only [lens]); omega -splitDisjunctions))))))
          refine CL.giv [2, 3] ?_
          (((try simp (implicitDefEqProofs := false) [htk]); (try simp (implicitDefEqProofs := false) (disch := first | assumption | (try simp only [lens]); omega -splitDisjunctions) [htk])); all_goals try (repeat' ((first | ((with_reducible first | refine And.intro ?_ ?_ | refine Exists.intro ?_ ?_); first | omega | (simp <;> omega)) | (with_reducible refine spl (And.intro ?_ ?_) <;> intro _) | (refine CL.clo (hat) ?_) | (refine CM.clo (hat) ?_) | (refine CD.clo (hat) ?_)) <;> ((try simp (implicitDefEqProofs := false) [htk]); (try simp (implicitDefEqProofs := false) (disch := first | assumption | (try simp only [lens]); omega -splitDisjunctions) [htk])))))
          refine W_of fun Q4 hQ4 => ?_
          have main4 : ∀ j v, v + j = w → A = ((Bs.drop v).all id && B) → Q4 [(2, .ptr 0 0 0), (3, .ptr 1 0 0), (5, .list (ns.map strRow)), (6, .int .i64 (q : Int)), (7, .int .i64 (k : Int)), (10, .list (Bs.map boolRow)), (11, .int .i64 (v : Int))] [.rows 3 [[.int .i64 w, .list (rel.map relRow), .list (tr.map strsRow)]], .rows 3 [frm f]] := by
            intro j
            induction j with
            | zero =>
              intro v hvw hb
              rw [List.drop_of_length_le (by omega), List.all_nil, Bool.true_and] at hb
              have ih := ih hb
              apply hQ4
              clear hQ4
              (((try simp (implicitDefEqProofs := false)); (try simp (implicitDefEqProofs := false) (disch := first | assumption | (try simp only [lens]); omega -splitDisjunctions))); all_goals try (repeat' ((first | ((with_reducible first | refine And.intro ?_ ?_ | refine Exists.intro ?_ ?_); first | omega | (simp <;> omega)) | (with_reducible refine spl (And.intro ?_ ?_) <;> intro _)) <;> ((try simp (implicitDefEqProofs := false)); (try simp (implicitDefEqProofs := false) (disch := first | assumption | (try simp only [lens]); omega -splitDisjunctions))))))
              all_goals first | exact ih | (refine at2 ih ?_ ?_ <;> simp; done) | (exfalso; first | omega | (simp_all; done) | (simp_all; omega))
            | succ j ih4 =>
              intro v hvw hb
              have hvB : v < Bs.length := by omega
              have ih4 := ih4 (v + 1) (by omega)
              rw [id_drop hvB] at hb
              apply hQ4
              clear hQ4
              cases hx : Bs[v] with
              | false =>
                rw [hx, Bool.false_and, Bool.false_and] at hb
                rw [hb]
                (((try simp (implicitDefEqProofs := false) [hvB, hx]); (try simp (implicitDefEqProofs := false) (disch := first | assumption | (try simp only [lens]); omega -splitDisjunctions) [hvB, hx])); all_goals try (repeat' ((first | ((with_reducible first | refine And.intro ?_ ?_ | refine Exists.intro ?_ ?_); first | omega | (simp <;> omega)) | (with_reducible refine spl (And.intro ?_ ?_) <;> intro _)) <;> ((try simp (implicitDefEqProofs := false) [hvB, hx]); (try simp (implicitDefEqProofs := false) (disch := first | assumption | (try simp only [lens]); omega -splitDisjunctions) [hvB, hx])))))
              | true =>
                rw [hx, Bool.true_and] at hb
                have ih4 := ih4 hb
                (((try simp (implicitDefEqProofs := false) [hvB, hx]); (try simp (implicitDefEqProofs := false) (disch := first | assumption | (try simp only [lens]); omega -splitDisjunctions) [hvB, hx])); all_goals try (repeat' ((first | ((with_reducible first | refine And.intro ?_ ?_ | refine Exists.intro ?_ ?_); first | omega | (simp <;> omega)) | (with_reducible refine spl (And.intro ?_ ?_) <;> intro _)) <;> ((try simp (implicitDefEqProofs := false) [hvB, hx]); (try simp (implicitDefEqProofs := false) (disch := first | assumption | (try simp only [lens]); omega -splitDisjunctions) [hvB, hx])))))
                all_goals first | exact ih4 | (refine at2 ih4 ?_ ?_ <;> simp; done) | (exfalso; first | omega | (simp_all; done) | (simp_all; omega))
          all_goals first | exact main4 _ 0 (Nat.zero_add _) hv | (refine at2 main4 _ 0 (Nat.zero_add _) hv ?_ ?_ <;> simp; done) | (exfalso; first | omega | (simp_all; done) | (simp_all; omega))
        | succ j ih2 =>
          intro w hw
          have ih2 := ih2 (w + 1) (by omega)
          have hwn : w < n := by omega
          rw [List.range_succ, List.map_append, List.map_append] at ih2
          obtain ⟨y, hy1, hy2, hy3, hy4, hy5⟩ := hro w hwn
          obtain ⟨hmw1, hmw2⟩ := hmw w hwn
          have hrow := hrow y hy3
          rw [List.map_cons, List.map_nil, ← hy1] at ih2
          apply hQ2
          clear hQ2
          generalize w * ns.length = a at *
          have ha0 : ¬ ((a : Int) < 0) := by omega
          have hl0 : ¬ ((ns.length : Int) < 0) := by omega
          have hr20 : ¬ r2 = 0 := by omega
          (((try simp (implicitDefEqProofs := false) [hmw1, hsl, hy2, ha0, hl0, hr20]); (try simp (implicitDefEqProofs := false) (disch := first | assumption | (try simp only [lens]); omega -splitDisjunctions) [hmw1, hsl, hy2, ha0, hl0, hr20])); all_goals try (repeat' ((first | ((with_reducible first | refine And.intro ?_ ?_ | refine Exists.intro ?_ ?_); first | omega | (simp <;> omega)) | (with_reducible refine spl (And.intro ?_ ?_) <;> intro _) | (refine CL.clo (hrow) ?_) | (refine CM.clo (hrow) ?_) | (refine CD.clo (hrow) ?_)) <;> ((try simp (implicitDefEqProofs := false) [hmw1, hsl, hy2, ha0, hl0, hr20]); (try simp (implicitDefEqProofs := false) (disch := first | assumption | (try simp only [lens]); omega -splitDisjunctions) [hmw1, hsl, hy2, ha0, hl0, hr20])))))
          all_goals refine at2 ih2 ?_ ?_ <;> simp
          all_goals exact (List.take_of_length_le (by simp)).symm
      all_goals first | exact main2 _ 0 (Nat.zero_add _) | (refine at2 main2 _ 0 (Nat.zero_add _) ?_ ?_ <;> simp; done) | (exfalso; first | omega | (simp_all; done) | (simp_all; omega))
  all_goals first | exact main _ 0 (Nat.zero_add _) rfl | (refine at2 main _ 0 (Nat.zero_add _) rfl ?_ ?_ <;> simp; done) | (exfalso; first | omega | (simp_all; done) | (simp_all; omega))
end Go.Proofs.Ytbmpmmbcfabeeaa
