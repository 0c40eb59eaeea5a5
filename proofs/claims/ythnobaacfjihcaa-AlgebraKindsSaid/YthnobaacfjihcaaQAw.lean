/-
  sequentref: DownsOf, JoinsOf, Pairs; sequentlaw: ownOrder.
-/
import Derived.Test.YthnobaacfjihcaaQAy
namespace Go.Proofs.Ythnobaacfjihcaa
open Go Go.Pv
set_option linter.unusedVariables false
set_option linter.unusedSimpArgs false
set_option maxRecDepth 100000
set_option maxHeartbeats 4000000

theorem bit_tmod (k i : Nat) (hk : k < 1048576) : (shrI .i64 (k : Int) (i : Int)).tmod 2 = if k.testBit i then 1 else 0 := by
  rw [shr_nat k i hk, Nat.testBit_eq_decide_div_mod_eq]
  have h : (((k / 2 ^ i : Nat) : Int)).tmod 2 = ((k / 2 ^ i % 2 : Nat) : Int) := by
    rw [Int.tmod_eq_emod_of_nonneg (Int.natCast_nonneg _)]; simp
  rw [h]
  have := Nat.mod_two_eq_zero_or_one (k / 2 ^ i)
  rcases this with h | h <;> simp [h]
def dnI (n : Nat) (g : Nat → Nat → Bool) (k i : Nat) : Bool := !k.testBit i || (List.range n).all fun j => !g j i || k.testBit j
theorem dn_eq {n : Nat} {g : Nat → Nat → Bool} {k : Nat} : isDown n g k = (List.range n).all (dnI n g k) := rfl
def x23_T4 : XC := .seq (.reg [⟨some 59,.move (.tmp 4),none⟩,⟨some 2,.assign (.tmp 59),none⟩]) (.ret)
def x23_T3 : XC := .seq (.reg [⟨some 54,.move (.tmp 7),none⟩]) (.cond (.tmp 54) (.reg [⟨some 55,.move (.tmp 4),none⟩,⟨some 56,.move (.tmp 6),none⟩,⟨some 57,.buildSlice 33 1 #[(0,.tmp 56)],none⟩,⟨some 58,.call ⟨.builtin .append,#[.tmp 55,.tmp 57],#[33,33]⟩,none⟩,⟨some 4,.assign (.tmp 58),none⟩]) (.skip))
def x23_L4 : XC := .seq (.seq (.reg [⟨some 34,.move (.tmp 9),none⟩,⟨some 35,.fieldAddr 24 (.tmp 1) 0,none⟩,⟨some 36,.load 3 (.tmp 35),none⟩,⟨some 37,.binOp .lss 3 (.tmp 34) (.tmp 36) 3,none⟩]) (.cond (.tmp 37) (.skip) (.exit 4))) (.seq (.block 5 (.seq (.reg [⟨some 40,.move (.tmp 3),none⟩,⟨some 41,.move (.tmp 9),none⟩,⟨some 42,.indexAddr 39 (.tmp 40) (.tmp 41),none⟩,⟨some 43,.load 41 (.tmp 42),none⟩,⟨some 44,.move (.tmp 8),none⟩,⟨some 45,.indexAddr 41 (.tmp 43) (.tmp 44),none⟩,⟨some 46,.load 4 (.tmp 45),none⟩,⟨some 47,.move (.tmp 46),none⟩,⟨some 48,.move (.tmp 5),some (some 47,true)⟩,⟨some 49,.move (.tmp 9),some (some 47,true)⟩,⟨some 50,.binOp .shr 3 (.tmp 48) (.tmp 49) 3,some (some 47,true)⟩,⟨some 51,.binOp .rem 3 (.tmp 50) (.const (.int .i64 2)) 3,some (some 47,true)⟩,⟨some 52,.binOp .eql 3 (.tmp 51) (.const (.int .i64 0)) 3,some (some 47,true)⟩,⟨some 53,.pick (.tmp 47) (.tmp 52) (.const (.bool false)),none⟩]) (.cond (.tmp 53) (.reg [⟨some 7,.assign (.const (.bool false)),none⟩]) (.skip)))) (.reg [⟨some 38,.move (.tmp 9),none⟩,⟨some 39,.binOp .add 3 (.tmp 38) (.const (.int .i64 1)) 3,none⟩,⟨some 9,.assign (.tmp 39),none⟩]))
def x23_L2 : XC := .seq (.seq (.reg [⟨some 19,.move (.tmp 8),none⟩,⟨some 20,.fieldAddr 24 (.tmp 1) 0,none⟩,⟨some 21,.load 3 (.tmp 20),none⟩,⟨some 22,.binOp .lss 3 (.tmp 19) (.tmp 21) 3,none⟩]) (.cond (.tmp 22) (.skip) (.exit 2))) (.seq (.block 3 (.seq (.reg [⟨some 25,.move (.tmp 5),none⟩,⟨some 26,.move (.tmp 8),none⟩,⟨some 27,.binOp .shr 3 (.tmp 25) (.tmp 26) 3,none⟩,⟨some 28,.binOp .rem 3 (.tmp 27) (.const (.int .i64 2)) 3,none⟩,⟨some 29,.binOp .eql 3 (.tmp 28) (.const (.int .i64 1)) 3,none⟩]) (.cond (.tmp 29) (.seq (.reg [⟨some 30,.move (.tmp 6),none⟩,⟨some 31,.move (.tmp 8),none⟩,⟨some 32,.buildSlice 37 1 #[(0,.tmp 31)],none⟩,⟨some 33,.call ⟨.builtin .append,#[.tmp 30,.tmp 32],#[37,37]⟩,none⟩,⟨some 6,.assign (.tmp 33),none⟩]) (.seq (.reg [⟨some 9,.assign (.const (.int .i64 0)),none⟩]) (.bloop 4 x23_L4))) (.skip)))) (.reg [⟨some 23,.move (.tmp 8),none⟩,⟨some 24,.binOp .add 3 (.tmp 23) (.const (.int .i64 1)) 3,none⟩,⟨some 8,.assign (.tmp 24),none⟩]))
def x23_L0 : XC := .seq (.seq (.reg [⟨some 12,.move (.tmp 5),none⟩,⟨some 13,.fieldAddr 24 (.tmp 1) 0,none⟩,⟨some 14,.load 3 (.tmp 13),none⟩,⟨some 15,.binOp .shl 3 (.const (.int .i64 1)) (.tmp 14) 3,none⟩,⟨some 16,.binOp .lss 3 (.tmp 12) (.tmp 15) 3,none⟩]) (.cond (.tmp 16) (.skip) (.exit 0))) (.seq (.block 1 (.seq (.reg [⟨some 6,.assign (.const (.slice none 0 0)),none⟩]) (.seq (.reg [⟨some 7,.assign (.const (.bool true)),none⟩]) (.seq (.seq (.reg [⟨some 8,.assign (.const (.int .i64 0)),none⟩]) (.bloop 2 x23_L2)) (x23_T3))))) (.reg [⟨some 17,.move (.tmp 5),none⟩,⟨some 18,.binOp .add 3 (.tmp 17) (.const (.int .i64 1)) 3,none⟩,⟨some 5,.assign (.tmp 18),none⟩]))
def x23 : XC := .seq (.reg [⟨some 1,.box 24 (.tmp 0),none⟩,⟨some 2,.assign (.const (.slice none 0 0)),none⟩]) (.seq (.reg [⟨some 10,.load 24 (.tmp 1),none⟩,⟨some 11,.call ⟨.value (.func 12),#[.tmp 10],#[24]⟩,none⟩,⟨some 3,.assign (.tmp 11),none⟩]) (.seq (.reg [⟨some 4,.assign (.const (.slice none 0 0)),none⟩]) (.seq (.seq (.reg [⟨some 5,.assign (.const (.int .i64 0)),none⟩]) (.bloop 0 x23_L0)) (x23_T4))))
@[simp] theorem x23_s {C : WC} {e : AE} {s : Store} {K : KS} : type_of% (@X_at C e s K _ _ x23_T4.eq_1) ∧ type_of% (@X_at C e s K _ _ x23_T3.eq_1) ∧ type_of% (@X_at C e s K _ _ x23_L4.eq_1) ∧ type_of% (@X_at C e s K _ _ x23_L2.eq_1) ∧ type_of% (@X_at C e s K _ _ x23_L0.eq_1) ∧ type_of% (@X_at C e s K _ _ x23.eq_1) := ⟨X_at x23_T4.eq_1, X_at x23_T3.eq_1, X_at x23_L4.eq_1, X_at x23_L2.eq_1, X_at x23_L0.eq_1, X_at x23.eq_1⟩
def an23 : Ann := ⟨[], [(4, [], [1, 3, 4, 5, 6, 7, 8, 9], [1, 3, 4, 5, 6, 7, 8]), (2, [(6, none, 1)], [1, 3, 4, 5, 6, 7, 8], [1, 3, 4, 5, 6, 7]), (0, [(4, none, 1)], [1, 3, 4, 5], [4])], []⟩
def cx23 (P : Program) (m : Nat) : WC := ⟨P, m, an23⟩
@[simp] theorem cx23_a {P : Program} {m : Nat} : (cx23 P m).P = P ∧ (cx23 P m).m = m ∧ (cx23 P m).A.loopOf 4 = ([], [1, 3, 4, 5, 6, 7, 8, 9], [1, 3, 4, 5, 6, 7, 8]) ∧ (cx23 P m).A.loopOf 2 = ([(6, none, 1)], [1, 3, 4, 5, 6, 7, 8], [1, 3, 4, 5, 6, 7]) ∧ (cx23 P m).A.loopOf 0 = ([(4, none, 1)], [1, 3, 4, 5], [4]) := ⟨rfl, rfl, rfl, rfl, rfl⟩
instance {P : Program} {m f : Nat} [h : EnT P f] : EnT (cx23 P m).P f := h
theorem chk23 : ∀ c, Try.f23.body = some c → chkC Try.f23.ntmps an23 c = true := by intro c h; obtain rfl := Option.some.inj h; decide +kernel
theorem op23 {args : List PV} {v : PV} (h : X (cx23 Try.prog 0) x23 (argsA 0 args) [] (.fin [.tmp 2] fun v1 s1 => deref s1 6 v1 = v)) (hl : args.length ≤ Try.f23.ntmps := by rw [Try.ntmps23]; simp) : CallOK Try.prog 23 args [] v [] :=
  callX (m := 0) (cx23 Try.prog 0) x23 rfl rfl (by kernel_rfl) Try.func23 rfl rfl hl mixed (chk23 _ rfl) (by rw [Try.results23]; exact h)

theorem DownsOf_ref (o : Ord) (n : Nat) (hn : o.n = n) (h10 : n ≤ 10) (hE : ∀ p ∈ o.ps, 0 ≤ p.1 ∧ p.1 < n ∧ 0 ≤ p.2 ∧ p.2 < n) (h5 : o.ps.length ≤ 500) : CallOK Try.prog 23 [.agg (ord o)] [] (.list ((outs n (leB o.ps) (2 ^ n)).map numsRow)) [] := by
  have hs := AtMost_ref o n hn (by omega) hE h5
  obtain ⟨m, E⟩ := o
  simp only at hn hE hs ⊢
  subst hn
  simp only [ord] at hs ⊢
  generalize leB E = g at *
  refine op23 ?_
  have hsh := shl_nat n (by omega)
  generalize hM : 2 ^ n = M at hsh ⊢
  have hM2 : M ≤ 1024 := by rw [← hM]; exact Nat.le_trans (Nat.pow_le_pow_right (by decide) h10) (by decide)
  (((try simp (implicitDefEqProofs := false) [hsh]); (try simp (implicitDefEqProofs := false) (disch := first | assumption | (try simp only [lens]); omega -splitDisjunctions) [hsh])); all_goals try (repeat' ((first | ((with_reducible first | refine And.intro ?_ ?_ | refine Exists.intro ?_ ?_); first | omega | (simp <;> omega)) | (with_reducible refine spl (And.intro ?_ ?_) <;> intro _) | (refine CL.clo (hs) ?_) | (refine CM.clo (hs) ?_) | (refine CD.clo (hs) ?_)) <;> ((try simp (implicitDefEqProofs := false) [hsh]); (try simp (implicitDefEqProofs := false) (disch := first | assumption | (try simp only [lens]); omega -splitDisjunctions) [hsh])))))
  refine W_of fun Q hQ => ?_
  have main : ∀ r k, k + r = M → Q [(1, .ptr 0 0 0), (3, .list ((tabF n g).map tabRowF)), (4, .sl 1 0 (outs n g k).length), (5, .int .i64 (k : Int))] [.rows 2 [[.int .i64 (n : Int), .list (E.map relRow)]], .rows 1 ((outs n g k).map numsRow)] := by
    intro r
    induction r with
    | zero =>
      intro k hk
      obtain rfl : k = M := by omega
      have hlen : (outs n g k).length ≤ 1024 := by
        unfold outs
        rw [List.length_map]
        exact Nat.le_trans (List.length_filter_le _ _) (by simpa using hM2)
      generalize outs n g k = L at *
      apply hQ
      clear hQ
      (((try simp (implicitDefEqProofs := false) [hsh]); (try simp (implicitDefEqProofs := false) (disch := first | assumption | (try simp only [lens]); omega -splitDisjunctions) [hsh])); all_goals try (repeat' ((first | ((with_reducible first | refine And.intro ?_ ?_ | refine Exists.intro ?_ ?_); first | omega | (simp <;> omega)) | (with_reducible refine spl (And.intro ?_ ?_) <;> intro _)) <;> ((try simp (implicitDefEqProofs := false) [hsh]); (try simp (implicitDefEqProofs := false) (disch := first | assumption | (try simp only [lens]); omega -splitDisjunctions) [hsh])))))
    | succ r ih =>
      intro k hk
      have hkM : k < M := by omega
      have ih := ih (k + 1) (by omega)
      rw [outs_succ, dn_eq] at ih
      have hbit := fun i => bit_tmod k i (by omega)
      have hlen : (outs n g k).length ≤ 1024 := by
        unfold outs
        rw [List.length_map]
        exact Nat.le_trans (List.length_filter_le _ _) (by simp; omega)
      generalize outs n g k = L at *
      apply hQ
      clear hQ
      (((try simp (implicitDefEqProofs := false) [hsh]); (try simp (implicitDefEqProofs := false) (disch := first | assumption | (try simp only [lens]); omega -splitDisjunctions) [hsh])); all_goals try (repeat' ((first | ((with_reducible first | refine And.intro ?_ ?_ | refine Exists.intro ?_ ?_); first | omega | (simp <;> omega)) | (with_reducible refine spl (And.intro ?_ ?_) <;> intro _)) <;> ((try simp (implicitDefEqProofs := false) [hsh]); (try simp (implicitDefEqProofs := false) (disch := first | assumption | (try simp only [lens]); omega -splitDisjunctions) [hsh])))))
      refine W_of fun Q hQ => ?_
      have main : ∀ r i, i + r = n → Q [(1, .ptr 0 0 0), (3, .list ((tabF n g).map tabRowF)), (4, .sl 1 0 L.length), (5, .int .i64 (k : Int)), (6, .sl 2 0 ((List.range i).filter k.testBit).length), (7, .bool ((List.range i).all (dnI n g k))), (8, .int .i64 (i : Int))] [.rows 2 [[.int .i64 (n : Int), .list (E.map relRow)]], .rows 1 (L.map numsRow), .rows 1 (((List.range i).filter k.testBit).map numRow)] := by
        intro r
        induction r with
        | zero =>
          intro i hi
          obtain rfl : i = n := by omega
          have hl2 : (List.range i).filter k.testBit = bitsL i k := rfl
          have hfl : ((List.range i).filter k.testBit).length ≤ i := by
            have := List.length_filter_le k.testBit (List.range i)
            rwa [List.length_range] at this
          rw [hl2] at hfl ⊢
          generalize bitsL i k = B at *
          generalize (List.range i).all (dnI i g k) = d at *
          apply hQ
          clear hQ
          cases d
          · (((try simp (implicitDefEqProofs := false)); (try simp (implicitDefEqProofs := false) (disch := first | assumption | (try simp only [lens]); omega -splitDisjunctions))); all_goals try (repeat' ((first | ((with_reducible first | refine And.intro ?_ ?_ | refine Exists.intro ?_ ?_); first | omega | (simp <;> omega)) | (with_reducible refine spl (And.intro ?_ ?_) <;> intro _)) <;> ((try simp (implicitDefEqProofs := false)); (try simp (implicitDefEqProofs := false) (disch := first | assumption | (try simp only [lens]); omega -splitDisjunctions))))))
            all_goals first | exact ih | (refine at2 ih ?_ ?_ <;> simp; done) | (exfalso; first | omega | (simp_all; done) | (simp_all; omega))
          · (((try simp (implicitDefEqProofs := false)); (try simp (implicitDefEqProofs := false) (disch := first | assumption | (try simp only [lens]); omega -splitDisjunctions))); all_goals try (repeat' ((first | ((with_reducible first | refine And.intro ?_ ?_ | refine Exists.intro ?_ ?_); first | omega | (simp <;> omega)) | (with_reducible refine spl (And.intro ?_ ?_) <;> intro _)) <;> ((try simp (implicitDefEqProofs := false)); (try simp (implicitDefEqProofs := false) (disch := first | assumption | (try simp only [lens]); omega -splitDisjunctions))))))
            all_goals first | exact ih | (refine at2 ih ?_ ?_ <;> simp [numsRow]; done) | (exfalso; first | omega | (simp_all; done) | (simp_all; omega))
        | succ r ih =>
          intro i hi
          have hin : i < n := by omega
          have ih := ih (i + 1) (by omega)
          rw [List.range_succ, List.filter_append, List.filter_cons, List.filter_nil, List.all_append, List.all_cons, List.all_nil, Bool.and_true] at ih
          have hfl : ((List.range i).filter k.testBit).length ≤ i := by
            have := List.length_filter_le k.testBit (List.range i)
            rwa [List.length_range] at this
          rw [show dnI n g k i = (!k.testBit i || (List.range n).all fun j => !g j i || k.testBit j) from rfl] at ih
          have hbi := hbit i
          generalize (List.range i).filter k.testBit = B at *
          generalize (List.range i).all (dnI n g k) = d at *
          apply hQ
          clear hQ
          cases hb : k.testBit i with
          | false =>
            rw [hb] at ih hbi
            simp only [Bool.false_eq_true, if_false, List.append_nil, Bool.not_false, Bool.true_or, Bool.and_true] at ih hbi
            (((try simp (implicitDefEqProofs := false) [hbi]); (try simp (implicitDefEqProofs := false) (disch := first | assumption | (try simp only [lens]); omega -splitDisjunctions) [hbi])); all_goals try (repeat' ((first | ((with_reducible first | refine And.intro ?_ ?_ | refine Exists.intro ?_ ?_); first | omega | (simp <;> omega)) | (with_reducible refine spl (And.intro ?_ ?_) <;> intro _)) <;> ((try simp (implicitDefEqProofs := false) [hbi]); (try simp (implicitDefEqProofs := false) (disch := first | assumption | (try simp only [lens]); omega -splitDisjunctions) [hbi])))))
            all_goals first | exact ih | (refine at2 ih ?_ ?_ <;> simp; done) | (exfalso; first | omega | (simp_all; done) | (simp_all; omega))
          | true =>
            rw [hb] at ih hbi
            simp only [if_true, Bool.not_true, Bool.false_or] at ih hbi
            (((try simp (implicitDefEqProofs := false) [hbi]); (try simp (implicitDefEqProofs := false) (disch := first | assumption | (try simp only [lens]); omega -splitDisjunctions) [hbi])); all_goals try (repeat' ((first | ((with_reducible first | refine And.intro ?_ ?_ | refine Exists.intro ?_ ?_); first | omega | (simp <;> omega)) | (with_reducible refine spl (And.intro ?_ ?_) <;> intro _)) <;> ((try simp (implicitDefEqProofs := false) [hbi]); (try simp (implicitDefEqProofs := false) (disch := first | assumption | (try simp only [lens]); omega -splitDisjunctions) [hbi])))))
            refine W_of fun Q hQ => ?_
            have main : ∀ r j, j + r = n → Q [(1, .ptr 0 0 0), (3, .list ((tabF n g).map tabRowF)), (4, .sl 1 0 L.length), (5, .int .i64 (k : Int)), (6, .sl 2 0 (B.length + 1)), (7, .bool (d && (List.range j).all fun j => !g j i || k.testBit j)), (8, .int .i64 (i : Int)), (9, .int .i64 (j : Int))] [.rows 2 [[.int .i64 (n : Int), .list (E.map relRow)]], .rows 1 (L.map numsRow), .rows 1 (B.map numRow ++ [[.int .i64 (i : Int)]])] := by
              intro r
              induction r with
              | zero =>
                intro j hj
                obtain rfl : j = n := by omega
                apply hQ
                clear hQ
                generalize (d && (List.range j).all fun j => !g j i || k.testBit j) = d2 at *
                (((try simp (implicitDefEqProofs := false)); (try simp (implicitDefEqProofs := false) (disch := first | assumption | (try simp only [lens]); omega -splitDisjunctions))); all_goals try (repeat' ((first | ((with_reducible first | refine And.intro ?_ ?_ | refine Exists.intro ?_ ?_); first | omega | (simp <;> omega)) | (with_reducible refine spl (And.intro ?_ ?_) <;> intro _)) <;> ((try simp (implicitDefEqProofs := false)); (try simp (implicitDefEqProofs := false) (disch := first | assumption | (try simp only [lens]); omega -splitDisjunctions))))))
                all_goals first | exact ih | (refine at2 ih ?_ ?_ <;> simp [numRow]; done) | (exfalso; first | omega | (simp_all; done) | (simp_all; omega))
              | succ r ih =>
                intro j hj
                have hjn : j < n := by omega
                have ih := ih (j + 1) (by omega)
                rw [List.range_succ, List.all_append, List.all_cons, List.all_nil, Bool.and_true, ← Bool.and_assoc] at ih
                have hbj := hbit j
                generalize (d && (List.range j).all fun j => !g j i || k.testBit j) = d2 at *
                apply hQ
                clear hQ
                cases hg : g j i <;> cases hkj : k.testBit j
                all_goals (rw [hkj] at hbj; simp only [if_true, Bool.false_eq_true, if_false] at hbj; rw [hg, hkj] at ih; simp only [Bool.not_true, Bool.not_false, Bool.true_or, Bool.false_or, Bool.and_true, Bool.and_false, Bool.or_self] at ih)
                all_goals ((((try simp (implicitDefEqProofs := false) [hin, hjn, hg, hbj, tabRowF, tabF_get, rowF_get]); (try simp (implicitDefEqProofs := false) (disch := first | assumption | (try simp only [lens]); omega -splitDisjunctions) [hin, hjn, hg, hbj, tabRowF, tabF_get, rowF_get])); all_goals try (repeat' ((first | ((with_reducible first | refine And.intro ?_ ?_ | refine Exists.intro ?_ ?_); first | omega | (simp <;> omega)) | (with_reducible refine spl (And.intro ?_ ?_) <;> intro _)) <;> ((try simp (implicitDefEqProofs := false) [hin, hjn, hg, hbj, tabRowF, tabF_get, rowF_get]); (try simp (implicitDefEqProofs := false) (disch := first | assumption | (try simp only [lens]); omega -splitDisjunctions) [hin, hjn, hg, hbj, tabRowF, tabF_get, rowF_get]))))))
                all_goals first | exact ih | (refine at2 ih ?_ ?_ <;> simp; done) | (exfalso; first | omega | (simp_all; done) | (simp_all; omega))
            refine at2 (main _ 0 (Nat.zero_add _)) ?_ ?_ <;> simp
      refine at2 (main _ 0 (Nat.zero_add _)) ?_ ?_ <;> simp
  refine at2 (main _ 0 (Nat.zero_add _)) ?_ ?_ <;> simp [outs]
/-- a join of two others? -/
def jo2 (n : Nat) (g : Nat → Nat → Bool) (x a b : Nat) : Bool := !(decide (a ≠ x) && (decide (b ≠ x) && (g a x && (g b x && decide (jn n g a b = x)))))
theorem La.join_two {n : Nat} {t : Nat → Nat → Bool} (h : La n t) {x : Nat} (hx : x < n) : (!decide (belowL n t x = x)) = (!decide (x = botL n t) && (List.range n).all fun a => (List.range n).all (jo2 n t x a)) := by
  have hn : 0 < n := by omega
  obtain ⟨b1, b2, b3, b4⟩ := h.below hn hx
  have hb := h.bot hn
  rw [Bool.eq_iff_iff]
  simp only [Bool.and_eq_true, Bool.not_eq_true', decide_eq_false_iff_not, List.all_eq_true, List.mem_range, jo2, Bool.and_eq_false_iff, decide_eq_true_eq, Bool.and_eq_true, not_and, ne_eq, Decidable.not_not]
  constructor
  · intro hne
    refine ⟨fun e => hne (h.anti _ _ b1 hx b2 (by rw [e]; exact hb.2 _ (by rw [← e]; exact b1))), fun a ha b hb => ?_⟩
    by_cases ea : a = x
    · exact .inl (by simpa using ea)
    · by_cases eb : b = x
      · exact .inr (.inl (by simpa using eb))
      · cases hax : t a x
        · exact .inr (.inr (.inl rfl))
        · cases hbx : t b x
          · exact .inr (.inr (.inr (.inl rfl)))
          · refine .inr (.inr (.inr (.inr ?_)))
            intro ej
            have := h.jl ha hb b1 (b3 a ha ea hax) (b3 b hb eb hbx)
            rw [ej] at this
            exact hne (h.anti _ _ b1 hx b2 this)
  · rintro ⟨hne, hall⟩ hbe
    -- the first step that comes to x
    have key : ∀ k, k ≤ n → (List.range k).foldl (belowS n t x) (botL n t) ≠ x := by
      intro k
      induction k with
      | zero => intro _ e; exact hne e.symm
      | succ k ih =>
        intro hk
        have ih := ih (by omega)
        obtain ⟨c1, c2, _, _⟩ := h.below_k hn hx k (by omega)
        rw [List.range_succ, List.foldl_append]
        simp only [List.foldl_cons, List.foldl_nil]
        generalize (List.range k).foldl (belowS n t x) (botL n t) = y at *
        unfold belowS
        split
        · rename_i hc
          intro ej
          rcases hall y c1 k (by omega) with g | g | g | g | g
          · exact ih (by simpa using g)
          · exact hc.1 (by simpa using g)
          · rw [c2] at g; cases g
          · rw [hc.2] at g; cases g
          · exact g ej
        · exact ih
    exact key n (Nat.le_refl _) hbe
def x22_T4 : XC := .seq (.reg [⟨some 90,.move (.tmp 9),none⟩,⟨some 2,.assign (.tmp 90),none⟩]) (.ret)
def x22_T3 : XC := .seq (.reg [⟨some 85,.move (.tmp 11),none⟩]) (.cond (.tmp 85) (.reg [⟨some 86,.move (.tmp 9),none⟩,⟨some 87,.move (.tmp 10),none⟩,⟨some 88,.buildSlice 37 1 #[(0,.tmp 87)],none⟩,⟨some 89,.call ⟨.builtin .append,#[.tmp 86,.tmp 88],#[37,37]⟩,none⟩,⟨some 9,.assign (.tmp 89),none⟩]) (.skip))
def x22_L4 : XC := .seq (.seq (.reg [⟨some 42,.move (.tmp 13),none⟩,⟨some 43,.fieldAddr 24 (.tmp 1) 0,none⟩,⟨some 44,.load 3 (.tmp 43),none⟩,⟨some 45,.binOp .lss 3 (.tmp 42) (.tmp 44) 3,none⟩]) (.cond (.tmp 45) (.skip) (.exit 4))) (.seq (.block 5 (.seq (.reg [⟨some 48,.move (.tmp 12),none⟩,⟨some 49,.move (.tmp 10),none⟩,⟨some 50,.binOp .neq 3 (.tmp 48) (.tmp 49) 3,none⟩,⟨some 51,.move (.tmp 50),none⟩,⟨some 52,.move (.tmp 13),some (some 51,true)⟩,⟨some 53,.move (.tmp 10),some (some 51,true)⟩,⟨some 54,.binOp .neq 3 (.tmp 52) (.tmp 53) 3,some (some 51,true)⟩,⟨some 55,.pick (.tmp 51) (.tmp 54) (.const (.bool false)),none⟩,⟨some 56,.move (.tmp 55),none⟩,⟨some 57,.move (.tmp 3),some (some 56,true)⟩,⟨some 58,.move (.tmp 12),some (some 56,true)⟩,⟨some 59,.indexAddr 39 (.tmp 57) (.tmp 58),some (some 56,true)⟩,⟨some 60,.load 41 (.tmp 59),some (some 56,true)⟩,⟨some 61,.move (.tmp 10),some (some 56,true)⟩,⟨some 62,.indexAddr 41 (.tmp 60) (.tmp 61),some (some 56,true)⟩,⟨some 63,.load 4 (.tmp 62),some (some 56,true)⟩,⟨some 64,.pick (.tmp 56) (.tmp 63) (.const (.bool false)),none⟩,⟨some 65,.move (.tmp 64),none⟩,⟨some 66,.move (.tmp 3),some (some 65,true)⟩,⟨some 67,.move (.tmp 13),some (some 65,true)⟩,⟨some 68,.indexAddr 39 (.tmp 66) (.tmp 67),some (some 65,true)⟩,⟨some 69,.load 41 (.tmp 68),some (some 65,true)⟩,⟨some 70,.move (.tmp 10),some (some 65,true)⟩,⟨some 71,.indexAddr 41 (.tmp 69) (.tmp 70),some (some 65,true)⟩,⟨some 72,.load 4 (.tmp 71),some (some 65,true)⟩,⟨some 73,.pick (.tmp 65) (.tmp 72) (.const (.bool false)),none⟩,⟨some 74,.move (.tmp 73),none⟩,⟨some 75,.move (.tmp 4),some (some 74,true)⟩,⟨some 76,.move (.tmp 12),some (some 74,true)⟩,⟨some 77,.indexAddr 33 (.tmp 75) (.tmp 76),some (some 74,true)⟩,⟨some 78,.load 37 (.tmp 77),some (some 74,true)⟩,⟨some 79,.move (.tmp 13),some (some 74,true)⟩,⟨some 80,.indexAddr 37 (.tmp 78) (.tmp 79),some (some 74,true)⟩,⟨some 81,.load 3 (.tmp 80),some (some 74,true)⟩,⟨some 82,.move (.tmp 10),some (some 74,true)⟩,⟨some 83,.binOp .eql 3 (.tmp 81) (.tmp 82) 3,some (some 74,true)⟩,⟨some 84,.pick (.tmp 74) (.tmp 83) (.const (.bool false)),none⟩]) (.cond (.tmp 84) (.reg [⟨some 11,.assign (.const (.bool false)),none⟩]) (.skip)))) (.reg [⟨some 46,.move (.tmp 13),none⟩,⟨some 47,.binOp .add 3 (.tmp 46) (.const (.int .i64 1)) 3,none⟩,⟨some 13,.assign (.tmp 47),none⟩]))
def x22_L2 : XC := .seq (.seq (.reg [⟨some 36,.move (.tmp 12),none⟩,⟨some 37,.fieldAddr 24 (.tmp 1) 0,none⟩,⟨some 38,.load 3 (.tmp 37),none⟩,⟨some 39,.binOp .lss 3 (.tmp 36) (.tmp 38) 3,none⟩]) (.cond (.tmp 39) (.skip) (.exit 2))) (.seq (.block 3 (.seq (.reg [⟨some 13,.assign (.const (.int .i64 0)),none⟩]) (.bloop 4 x22_L4))) (.reg [⟨some 40,.move (.tmp 12),none⟩,⟨some 41,.binOp .add 3 (.tmp 40) (.const (.int .i64 1)) 3,none⟩,⟨some 12,.assign (.tmp 41),none⟩]))
def x22_L0 : XC := .seq (.seq (.reg [⟨some 27,.move (.tmp 10),none⟩,⟨some 28,.fieldAddr 24 (.tmp 1) 0,none⟩,⟨some 29,.load 3 (.tmp 28),none⟩,⟨some 30,.binOp .lss 3 (.tmp 27) (.tmp 29) 3,none⟩]) (.cond (.tmp 30) (.skip) (.exit 0))) (.seq (.block 1 (.seq (.seq (.reg [⟨some 33,.move (.tmp 10),none⟩,⟨some 34,.move (.tmp 7),none⟩,⟨some 35,.binOp .eql 3 (.tmp 33) (.tmp 34) 3,none⟩]) (.cond (.tmp 35) (.exit 1) (.skip))) (.seq (.reg [⟨some 11,.assign (.const (.bool true)),none⟩]) (.seq (.seq (.reg [⟨some 12,.assign (.const (.int .i64 0)),none⟩]) (.bloop 2 x22_L2)) (x22_T3))))) (.reg [⟨some 31,.move (.tmp 10),none⟩,⟨some 32,.binOp .add 3 (.tmp 31) (.const (.int .i64 1)) 3,none⟩,⟨some 10,.assign (.tmp 32),none⟩]))
def x22 : XC := .seq (.reg [⟨some 1,.box 24 (.tmp 0),none⟩,⟨some 2,.assign (.const (.slice none 0 0)),none⟩]) (.seq (.reg [⟨some 14,.load 24 (.tmp 1),none⟩,⟨some 15,.call ⟨.value (.func 12),#[.tmp 14],#[24]⟩,none⟩,⟨some 3,.assign (.tmp 15),none⟩]) (.seq (.reg [⟨some 17,.load 24 (.tmp 1),none⟩,⟨some 18,.call ⟨.value (.func 18),#[.tmp 17],#[24]⟩,none⟩,⟨some 16,.move (.tmp 18),none⟩,⟨some 19,.extract (.tmp 16) 0,none⟩,⟨some 20,.extract (.tmp 16) 1,none⟩,⟨some 21,.extract (.tmp 16) 2,none⟩,⟨some 4,.assign (.tmp 19),none⟩,⟨some 5,.assign (.tmp 20),none⟩,⟨some 6,.assign (.tmp 21),none⟩]) (.seq (.reg [⟨some 23,.load 24 (.tmp 1),none⟩,⟨some 24,.call ⟨.value (.func 35),#[.tmp 23],#[24]⟩,none⟩,⟨some 22,.move (.tmp 24),none⟩,⟨some 25,.extract (.tmp 22) 0,none⟩,⟨some 26,.extract (.tmp 22) 1,none⟩,⟨some 7,.assign (.tmp 25),none⟩,⟨some 8,.assign (.tmp 26),none⟩]) (.seq (.reg [⟨some 9,.assign (.const (.slice none 0 0)),none⟩]) (.seq (.seq (.reg [⟨some 10,.assign (.const (.int .i64 0)),none⟩]) (.bloop 0 x22_L0)) (x22_T4))))))
@[simp] theorem x22_s {C : WC} {e : AE} {s : Store} {K : KS} : type_of% (@X_at C e s K _ _ x22_T4.eq_1) ∧ type_of% (@X_at C e s K _ _ x22_T3.eq_1) ∧ type_of% (@X_at C e s K _ _ x22_L4.eq_1) ∧ type_of% (@X_at C e s K _ _ x22_L2.eq_1) ∧ type_of% (@X_at C e s K _ _ x22_L0.eq_1) ∧ type_of% (@X_at C e s K _ _ x22.eq_1) := ⟨X_at x22_T4.eq_1, X_at x22_T3.eq_1, X_at x22_L4.eq_1, X_at x22_L2.eq_1, X_at x22_L0.eq_1, X_at x22.eq_1⟩
def an22 : Ann := ⟨[], [(4, [], [1, 3, 4, 7, 9, 10, 11, 12, 13], [1, 3, 4, 7, 9, 10, 11, 12]), (2, [], [1, 3, 4, 7, 9, 10, 11, 12], [1, 3, 4, 7, 9, 10, 11]), (0, [(9, none, 1)], [1, 3, 4, 7, 9, 10], [9])], []⟩
def cx22 (P : Program) (m : Nat) : WC := ⟨P, m, an22⟩
@[simp] theorem cx22_a {P : Program} {m : Nat} : (cx22 P m).P = P ∧ (cx22 P m).m = m ∧ (cx22 P m).A.loopOf 4 = ([], [1, 3, 4, 7, 9, 10, 11, 12, 13], [1, 3, 4, 7, 9, 10, 11, 12]) ∧ (cx22 P m).A.loopOf 2 = ([], [1, 3, 4, 7, 9, 10, 11, 12], [1, 3, 4, 7, 9, 10, 11]) ∧ (cx22 P m).A.loopOf 0 = ([(9, none, 1)], [1, 3, 4, 7, 9, 10], [9]) := ⟨rfl, rfl, rfl, rfl, rfl⟩
instance {P : Program} {m f : Nat} [h : EnT P f] : EnT (cx22 P m).P f := h
theorem chk22 : ∀ c, Try.f22.body = some c → chkC Try.f22.ntmps an22 c = true := by intro c h; obtain rfl := Option.some.inj h; decide +kernel
theorem op22 {args : List PV} {v : PV} (h : X (cx22 Try.prog 0) x22 (argsA 0 args) [] (.fin [.tmp 2] fun v1 s1 => deref s1 6 v1 = v)) (hl : args.length ≤ Try.f22.ntmps := by rw [Try.ntmps22]; simp) : CallOK Try.prog 22 args [] v [] :=
  callX (m := 0) (cx22 Try.prog 0) x22 rfl rfl (by kernel_rfl) Try.func22 rfl rfl hl mixed (chk22 _ rfl) (by rw [Try.results22]; exact h)

theorem JoinsOf_ref (o : Ord) (hz : (ofault o).1 = 0) (hL : isLat o.n.toNat (leB o.ps) = true) : CallOK Try.prog 22 [.agg (ord o)] [] (.list ((joinsL o.n.toNat (leB o.ps) o.n.toNat).map numRow)) [] := by
  obtain ⟨h0, h1, h2, h3, h4, h5⟩ := ofault_ok hz
  have hPO := leB_PO hz
  obtain ⟨n, E⟩ := o
  simp only at h1 h2 h3 h4 h5 hPO hL ⊢
  obtain ⟨n, rfl⟩ : ∃ k : Nat, n = (k : Int) := ⟨n.toNat, by omega⟩
  have hs := AtMost_ref ⟨(n : Int), E⟩ n rfl (by omega) h4 h3
  have hb := Bounds_ref ⟨(n : Int), E⟩ n rfl (by omega) h4 h3
  have he := fun hL => Ends_ref ⟨(n : Int), E⟩ n rfl (by omega) (by omega) h4 h3 hL
  simp only [Int.toNat_natCast, ord, isLat_okA2] at hPO hs hb he hL ⊢
  generalize leB E = g at *
  have hLa : La n g := ⟨hPO, hL⟩
  rw [hL, jR_eq hL, mR_eq hL] at hb
  have he := he hLa
  have hj := fun a b ha hb => (joinI_jn hL (a := a) (b := b) ha hb).2
  have hjo := fun x (hx : x < n) => hLa.join_two hx
  have hjd : ∀ x a b, jo2 n g x a b = !(decide (a ≠ x) && (decide (b ≠ x) && (g a x && (g b x && decide (jn n g a b = x))))) := fun _ _ _ => rfl
  unfold joinsL
  clear h0 h4 h5 hz hLa hL hPO
  generalize belowL n g = B at *
  generalize botL n g = lo at *
  generalize topL n g = hi at *
  generalize jo2 n g = J at *
  generalize mt n g = m at *
  generalize jn n g = j at *
  refine op22 ?_
  (((try simp (implicitDefEqProofs := false)); (try simp (implicitDefEqProofs := false) (disch := first | assumption | (try simp only [lens]); omega -splitDisjunctions))); all_goals try (repeat' ((first | ((with_reducible first | refine And.intro ?_ ?_ | refine Exists.intro ?_ ?_); first | omega | (simp <;> omega)) | (with_reducible refine spl (And.intro ?_ ?_) <;> intro _) | (refine CL.clo (hs) ?_) | (refine CM.clo (hs) ?_) | (refine CD.clo (hs) ?_) | (refine CL.clo (hb) ?_) | (refine CM.clo (hb) ?_) | (refine CD.clo (hb) ?_) | (refine CL.clo (he) ?_) | (refine CM.clo (he) ?_) | (refine CD.clo (he) ?_)) <;> ((try simp (implicitDefEqProofs := false)); (try simp (implicitDefEqProofs := false) (disch := first | assumption | (try simp only [lens]); omega -splitDisjunctions))))))
  clear hs hb he
  refine W_of fun Q hQ => ?_
  have main : ∀ k x, x + k = n → Q [(1, .ptr 0 0 0), (3, .list ((tabF n g).map tabRowF)), (4, .list ((List.range n).map (nRow n j))), (7, .int .i64 (lo : Int)), (9, .sl 1 0 ((List.range x).filter fun x => !decide (B x = x)).length), (10, .int .i64 (x : Int))] [.rows 2 [[.int .i64 (n : Int), .list (E.map relRow)]], .rows 1 (((List.range x).filter fun x => !decide (B x = x)).map numRow)] := by
    intro k
    induction k with
    | zero =>
      intro x hx
      obtain rfl : x = n := by omega
      generalize (List.range x).filter (fun x => !decide (B x = x)) = l at *
      apply hQ
      clear hQ
      (((try simp (implicitDefEqProofs := false)); (try simp (implicitDefEqProofs := false) (disch := first | assumption | (try simp only [lens]); omega -splitDisjunctions))); all_goals try (repeat' ((first | ((with_reducible first | refine And.intro ?_ ?_ | refine Exists.intro ?_ ?_); first | omega | (simp <;> omega)) | (with_reducible refine spl (And.intro ?_ ?_) <;> intro _)) <;> ((try simp (implicitDefEqProofs := false)); (try simp (implicitDefEqProofs := false) (disch := first | assumption | (try simp only [lens]); omega -splitDisjunctions))))))
    | succ k ih =>
      intro x hx
      have hxn : x < n := by omega
      have ih := ih (x + 1) (by omega)
      rw [List.range_succ, List.filter_append, List.filter_cons, List.filter_nil, hjo x hxn] at ih
      have hfl : ((List.range x).filter fun x => !decide (B x = x)).length ≤ x := by
        have := List.length_filter_le (fun x => !decide (B x = x)) (List.range x)
        rwa [List.length_range] at this
      generalize (List.range x).filter (fun x => !decide (B x = x)) = l at *
      have hjx := hjd x
      generalize J x = J at *
      clear hjo hjd
      apply hQ
      clear hQ
      by_cases hxl : x = lo
      · simp only [hxl, decide_true, Bool.not_true, Bool.false_and, Bool.false_eq_true, if_false, List.append_nil] at ih
        (((try simp (implicitDefEqProofs := false) [hxl]); (try simp (implicitDefEqProofs := false) (disch := first | assumption | (try simp only [lens]); omega -splitDisjunctions) [hxl])); all_goals try (repeat' ((first | ((with_reducible first | refine And.intro ?_ ?_ | refine Exists.intro ?_ ?_); first | omega | (simp <;> omega)) | (with_reducible refine spl (And.intro ?_ ?_) <;> intro _)) <;> ((try simp (implicitDefEqProofs := false) [hxl]); (try simp (implicitDefEqProofs := false) (disch := first | assumption | (try simp only [lens]); omega -splitDisjunctions) [hxl])))))
        all_goals first | exact ih | (refine at2 ih ?_ ?_ <;> simp [hxl]; done) | (exfalso; first | omega | (simp_all; done) | (simp_all; omega))
      · simp only [hxl, decide_false, Bool.not_false, Bool.true_and] at ih
        (((try simp (implicitDefEqProofs := false) [hxl]); (try simp (implicitDefEqProofs := false) (disch := first | assumption | (try simp only [lens]); omega -splitDisjunctions) [hxl])); all_goals try (repeat' ((first | ((with_reducible first | refine And.intro ?_ ?_ | refine Exists.intro ?_ ?_); first | omega | (simp <;> omega)) | (with_reducible refine spl (And.intro ?_ ?_) <;> intro _)) <;> ((try simp (implicitDefEqProofs := false) [hxl]); (try simp (implicitDefEqProofs := false) (disch := first | assumption | (try simp only [lens]); omega -splitDisjunctions) [hxl])))))
        all_goals try (exfalso; omega)
        refine W_of fun Q hQ => ?_
        have main : ∀ k a, a + k = n → Q [(1, .ptr 0 0 0), (3, .list ((tabF n g).map tabRowF)), (4, .list ((List.range n).map (nRow n j))), (7, .int .i64 (lo : Int)), (9, .sl 1 0 l.length), (10, .int .i64 (x : Int)), (11, .bool ((List.range a).all fun a => (List.range n).all (J a))), (12, .int .i64 (a : Int))] [.rows 2 [[.int .i64 (n : Int), .list (E.map relRow)]], .rows 1 (l.map numRow)] := by
          intro k
          induction k with
          | zero =>
            intro a ha
            obtain rfl : a = n := by omega
            generalize (List.range a).all (fun x => (List.range a).all (J x)) = r at *
            apply hQ
            clear hQ
            cases r
            · simp only [Bool.false_eq_true, if_false, List.append_nil] at ih
              (((try simp (implicitDefEqProofs := false)); (try simp (implicitDefEqProofs := false) (disch := first | assumption | (try simp only [lens]); omega -splitDisjunctions))); all_goals try (repeat' ((first | ((with_reducible first | refine And.intro ?_ ?_ | refine Exists.intro ?_ ?_); first | omega | (simp <;> omega)) | (with_reducible refine spl (And.intro ?_ ?_) <;> intro _)) <;> ((try simp (implicitDefEqProofs := false)); (try simp (implicitDefEqProofs := false) (disch := first | assumption | (try simp only [lens]); omega -splitDisjunctions))))))
              all_goals first | exact ih | (refine at2 ih ?_ ?_ <;> simp; done) | (exfalso; first | omega | (simp_all; done) | (simp_all; omega))
            · simp only [if_true] at ih
              (((try simp (implicitDefEqProofs := false)); (try simp (implicitDefEqProofs := false) (disch := first | assumption | (try simp only [lens]); omega -splitDisjunctions))); all_goals try (repeat' ((first | ((with_reducible first | refine And.intro ?_ ?_ | refine Exists.intro ?_ ?_); first | omega | (simp <;> omega)) | (with_reducible refine spl (And.intro ?_ ?_) <;> intro _)) <;> ((try simp (implicitDefEqProofs := false)); (try simp (implicitDefEqProofs := false) (disch := first | assumption | (try simp only [lens]); omega -splitDisjunctions))))))
              all_goals first | exact ih | (refine at2 ih ?_ ?_ <;> simp [numRow]; done) | (exfalso; first | omega | (simp_all; done) | (simp_all; omega))
          | succ k ih =>
            intro a ha
            have han : a < n := by omega
            have ih := ih (a + 1) (by omega)
            rw [List.range_succ, List.all_append, List.all_cons, List.all_nil, Bool.and_true] at ih
            generalize (List.range a).all (fun x => (List.range n).all (J x)) = r at *
            apply hQ
            clear hQ
            (((try simp (implicitDefEqProofs := false)); (try simp (implicitDefEqProofs := false) (disch := first | assumption | (try simp only [lens]); omega -splitDisjunctions))); all_goals try (repeat' ((first | ((with_reducible first | refine And.intro ?_ ?_ | refine Exists.intro ?_ ?_); first | omega | (simp <;> omega)) | (with_reducible refine spl (And.intro ?_ ?_) <;> intro _)) <;> ((try simp (implicitDefEqProofs := false)); (try simp (implicitDefEqProofs := false) (disch := first | assumption | (try simp only [lens]); omega -splitDisjunctions))))))
            refine W_of fun Q hQ => ?_
            have main : ∀ k b, b + k = n → Q [(1, .ptr 0 0 0), (3, .list ((tabF n g).map tabRowF)), (4, .list ((List.range n).map (nRow n j))), (7, .int .i64 (lo : Int)), (9, .sl 1 0 l.length), (10, .int .i64 (x : Int)), (11, .bool (r && (List.range b).all (J a))), (12, .int .i64 (a : Int)), (13, .int .i64 (b : Int))] [.rows 2 [[.int .i64 (n : Int), .list (E.map relRow)]], .rows 1 (l.map numRow)] := by
              intro k
              induction k with
              | zero =>
                intro b hb
                obtain rfl : b = n := by omega
                apply hQ
                clear hQ
                generalize (r && (List.range b).all (J a)) = r2 at *
                (((try simp (implicitDefEqProofs := false)); (try simp (implicitDefEqProofs := false) (disch := first | assumption | (try simp only [lens]); omega -splitDisjunctions))); all_goals try (repeat' ((first | ((with_reducible first | refine And.intro ?_ ?_ | refine Exists.intro ?_ ?_); first | omega | (simp <;> omega)) | (with_reducible refine spl (And.intro ?_ ?_) <;> intro _)) <;> ((try simp (implicitDefEqProofs := false)); (try simp (implicitDefEqProofs := false) (disch := first | assumption | (try simp only [lens]); omega -splitDisjunctions))))))
                all_goals first | exact ih | (refine at2 ih ?_ ?_ <;> simp; done) | (exfalso; first | omega | (simp_all; done) | (simp_all; omega))
              | succ k ih =>
                intro b hb
                have hbn : b < n := by omega
                have ih := ih (b + 1) (by omega)
                rw [List.range_succ, List.all_append, List.all_cons, List.all_nil, Bool.and_true, ← Bool.and_assoc, hjx a b] at ih
                generalize (r && (List.range b).all (J a)) = r2 at *
                have b1 := hj a b han hbn
                clear hjx
                apply hQ
                clear hQ
                by_cases ea : a = x <;> by_cases eb : b = x <;> cases hga : g a x <;> cases hgb : g b x <;> by_cases ej : j a b = x
                all_goals (simp only [ea, eb, hga, hgb, ej, ne_eq, not_true_eq_false, not_false_eq_true, decide_true, decide_false, Bool.not_true, Bool.not_false, Bool.false_and, Bool.true_and, Bool.and_true, Bool.and_false] at ih)
                all_goals try (exfalso; first | omega | (subst ea; rw [hga] at hgb; cases hgb))
                all_goals ((((try simp (implicitDefEqProofs := false) [han, hbn, hxn, tabRowF, tabF_get, rowF_get, nRow, nCell, b1, hga, hgb, ea, eb, ej]); (try simp (implicitDefEqProofs := false) (disch := first | assumption | (try simp only [lens]); omega -splitDisjunctions) [han, hbn, hxn, tabRowF, tabF_get, rowF_get, nRow, nCell, b1, hga, hgb, ea, eb, ej])); all_goals try (repeat' ((first | ((with_reducible first | refine And.intro ?_ ?_ | refine Exists.intro ?_ ?_); first | omega | (simp <;> omega)) | (with_reducible refine spl (And.intro ?_ ?_) <;> intro _)) <;> ((try simp (implicitDefEqProofs := false) [han, hbn, hxn, tabRowF, tabF_get, rowF_get, nRow, nCell, b1, hga, hgb, ea, eb, ej]); (try simp (implicitDefEqProofs := false) (disch := first | assumption | (try simp only [lens]); omega -splitDisjunctions) [han, hbn, hxn, tabRowF, tabF_get, rowF_get, nRow, nCell, b1, hga, hgb, ea, eb, ej]))))))
                all_goals first | exact ih | (refine at2 ih ?_ ?_ <;> simp [nRow, nCell, ea, eb]; done) | (exfalso; first | omega | (simp_all; done) | (simp_all; omega))
            refine at2 (main _ 0 (Nat.zero_add _)) ?_ ?_ <;> simp
        refine at2 (main _ 0 (Nat.zero_add _)) ?_ ?_ <;> simp
  refine at2 (main _ 0 (Nat.zero_add _)) ?_ ?_ <;> simp
def x17_L0 : XC := .seq (.seq (.reg [⟨some 11,.move (.tmp 5),none⟩,⟨some 12,.move (.tmp 0),none⟩,⟨some 13,.call ⟨.builtin .len,#[.tmp 12],#[22]⟩,none⟩,⟨some 14,.binOp .lss 3 (.tmp 11) (.tmp 13) 3,none⟩]) (.cond (.tmp 14) (.skip) (.exit 0))) (.seq (.block 1 (.seq (.drawn 6 [⟨some 17,.move (.tmp 0),none⟩,⟨some 18,.move (.tmp 5),none⟩,⟨some 19,.indexAddr 22 (.tmp 17) (.tmp 18),none⟩,⟨some 20,.load 29 (.tmp 19),none⟩,⟨some 21,.move (.tmp 1),none⟩,⟨some 22,.move (.tmp 5),none⟩,⟨some 23,.indexAddr 22 (.tmp 21) (.tmp 22),none⟩,⟨some 24,.load 29 (.tmp 23),none⟩,⟨some 25,.binOp .neq 29 (.tmp 20) (.tmp 24) 29,none⟩]) (.cond (.tmp 25) (.seq (.reg [⟨some 4,.assign (.const (.bool false)),none⟩]) (.ret)) (.skip)))) (.reg [⟨some 15,.move (.tmp 5),none⟩,⟨some 16,.binOp .add 3 (.tmp 15) (.const (.int .i64 1)) 3,none⟩,⟨some 5,.assign (.tmp 16),none⟩]))
def x17 : XC := .seq (.reg [⟨some 4,.assign (.const (.bool false)),none⟩]) (.seq (.seq (.reg [⟨some 6,.move (.tmp 0),none⟩,⟨some 7,.call ⟨.builtin .len,#[.tmp 6],#[22]⟩,none⟩,⟨some 8,.move (.tmp 1),none⟩,⟨some 9,.call ⟨.builtin .len,#[.tmp 8],#[22]⟩,none⟩,⟨some 10,.binOp .neq 3 (.tmp 7) (.tmp 9) 3,none⟩]) (.cond (.tmp 10) (.seq (.reg [⟨some 4,.assign (.const (.bool false)),none⟩]) (.ret)) (.skip))) (.seq (.seq (.reg [⟨some 5,.assign (.const (.int .i64 0)),none⟩]) (.bloop 0 x17_L0)) (.seq (.reg [⟨some 4,.assign (.const (.bool true)),none⟩]) (.ret))))
@[simp] theorem x17_s {C : WC} {e : AE} {s : Store} {K : KS} : type_of% (@X_at C e s K _ _ x17_L0.eq_1) ∧ type_of% (@X_at C e s K _ _ x17.eq_1) := ⟨X_at x17_L0.eq_1, X_at x17.eq_1⟩
def an17 : Ann := ⟨[], [(0, [], [0, 1, 5], [4])], []⟩
def cx17 (P : Program) (m : Nat) : WC := ⟨P, m, an17⟩
@[simp] theorem cx17_a {P : Program} {m : Nat} : (cx17 P m).P = P ∧ (cx17 P m).m = m ∧ (cx17 P m).A.clsOf 6 = .draw ∧ (cx17 P m).A.frzOf 6 = [] ∧ (cx17 P m).A.loopOf 0 = ([], [0, 1, 5], [4]) := ⟨rfl, rfl, rfl, rfl, rfl⟩
instance {P : Program} {m f : Nat} [h : EnT P f] : EnT (cx17 P m).P f := h
theorem chk17 : ∀ c, Try.f17.body = some c → chkC Try.f17.ntmps an17 c = true := by intro c h; obtain rfl := Option.some.inj h; decide +kernel
theorem op17 {args : List PV} {v : PV} (h : X (cx17 Try.prog 0) x17 (argsA 0 args) [] (.fin [.tmp 4] fun v1 s1 => deref s1 6 v1 = v)) (hl : args.length ≤ Try.f17.ntmps := by rw [Try.ntmps17]; simp) : CallOK Try.prog 17 args [] v [] :=
  callX (m := 0) (cx17 Try.prog 0) x17 rfl rfl (by kernel_rfl) Try.func17 rfl rfl hl mixed (chk17 _ rfl) (by rw [Try.results17]; exact h)

theorem Pairs_ref (l : List (Int × Int)) (h1 : l.length ≤ 8796093022208) : CallOK Try.prog 17 [.list (l.map relRow), .list (l.map relRow)] [] (.bool true) [] := by
  refine op17 ?_
  (((try simp (implicitDefEqProofs := false)); (try simp (implicitDefEqProofs := false) (disch := first | assumption | (try simp only [lens]); omega -splitDisjunctions))); all_goals try (repeat' ((first | ((with_reducible first | refine And.intro ?_ ?_ | refine Exists.intro ?_ ?_); first | omega | (simp <;> omega)) | (with_reducible refine spl (And.intro ?_ ?_) <;> intro _)) <;> ((try simp (implicitDefEqProofs := false)); (try simp (implicitDefEqProofs := false) (disch := first | assumption | (try simp only [lens]); omega -splitDisjunctions))))))
  refine W_of fun Q hQ => ?_
  have main : ∀ k i, i + k = l.length → Q [(0, .list (l.map relRow)), (1, .list (l.map relRow)), (5, .int .i64 (i : Int))] [] := by
    intro k
    induction k with
    | zero =>
      intro i hi
      apply hQ
      clear hQ
      (((try simp (implicitDefEqProofs := false)); (try simp (implicitDefEqProofs := false) (disch := first | assumption | (try simp only [lens]); omega -splitDisjunctions))); all_goals try (repeat' ((first | ((with_reducible first | refine And.intro ?_ ?_ | refine Exists.intro ?_ ?_); first | omega | (simp <;> omega)) | (with_reducible refine spl (And.intro ?_ ?_) <;> intro _)) <;> ((try simp (implicitDefEqProofs := false)); (try simp (implicitDefEqProofs := false) (disch := first | assumption | (try simp only [lens]); omega -splitDisjunctions))))))
    | succ k ih =>
      intro i hi
      have hil : i < l.length := by omega
      have ih := ih (i + 1) (by omega)
      apply hQ
      clear hQ
      (((try simp (implicitDefEqProofs := false) [hil, relRow]); (try simp (implicitDefEqProofs := false) (disch := first | assumption | (try simp only [lens]); omega -splitDisjunctions) [hil, relRow])); all_goals try (repeat' ((first | ((with_reducible first | refine And.intro ?_ ?_ | refine Exists.intro ?_ ?_); first | omega | (simp <;> omega)) | (with_reducible refine spl (And.intro ?_ ?_) <;> intro _)) <;> ((try simp (implicitDefEqProofs := false) [hil, relRow]); (try simp (implicitDefEqProofs := false) (disch := first | assumption | (try simp only [lens]); omega -splitDisjunctions) [hil, relRow])))))
      all_goals first | exact ih | (refine at2 ih ?_ ?_ <;> simp [relRow]; done) | (exfalso; first | omega | (simp_all; done) | (simp_all; omega))
  refine at2 (main _ 0 (Nat.zero_add _)) ?_ ?_ <;> simp
def x13 : XC := .seq (.reg [⟨some 1,.box 24 (.tmp 0),none⟩,⟨some 2,.alloc 24,none⟩]) (.seq (.drawn 1 [⟨some 3,.fieldAddr 24 (.tmp 1) 0,none⟩,⟨some 4,.load 3 (.tmp 3),none⟩,⟨some 5,.fieldAddr 24 (.tmp 1) 1,none⟩,⟨some 6,.load 22 (.tmp 5),none⟩,⟨some 7,.call ⟨.builtin .append,#[.const (.slice none 0 0),.tmp 6],#[22,22]⟩,none⟩,⟨some 8,.build 24 #[(0,.tmp 4),(1,.tmp 7)],none⟩,⟨none,.store 24 (.tmp 2) (.tmp 8),none⟩]) (.ret))
@[simp] theorem x13_s {C : WC} {e : AE} {s : Store} {K : KS} : type_of% (@X_at C e s K _ _ x13.eq_1) := X_at x13.eq_1
def an13 : Ann := ⟨[(1, .mix 5)], [], []⟩
def cx13 (P : Program) (m : Nat) : WC := ⟨P, m, an13⟩
@[simp] theorem cx13_a {P : Program} {m : Nat} : (cx13 P m).P = P ∧ (cx13 P m).m = m ∧ (cx13 P m).A.clsOf 1 = .mix 5 ∧ (cx13 P m).A.frzOf 1 = [] := ⟨rfl, rfl, rfl, rfl⟩
instance {P : Program} {m f : Nat} [h : EnT P f] : EnT (cx13 P m).P f := h
theorem chk13 : ∀ c, Try.f13.body = some c → chkC Try.f13.ntmps an13 c = true := by intro c h; obtain rfl := Option.some.inj h; decide +kernel
theorem os13 {args : List PV} {v : PV} (h : X (cx13 Try.prog 0) x13 (argsA 0 args) [] (.fin [.cell 2 24] fun v1 s1 => softV (deref s1 6 v1) = v)) (hl : args.length ≤ Try.f13.ntmps := by rw [Try.ntmps13]; simp) : CallOK Try.prog 13 args [] v [] :=
  callXF (m := 0) (cx13 Try.prog 0) x13 rfl rfl (by kernel_rfl) Try.func13 rfl rfl hl mixed (chk13 _ rfl) (by rw [Try.results13]; exact h)

theorem ownOrder_law (o : Ord) (h5 : o.ps.length * 16 ≤ 140737488351232) : CallOK Try.prog 13 [.agg (ord o)] [] (.agg (ord o)) [] := by
  obtain ⟨n, E⟩ := o
  simp only [ord] at h5 ⊢
  refine os13 ?_
  (((try simp (implicitDefEqProofs := false)); (try simp (implicitDefEqProofs := false) (disch := first | assumption | (try simp only [lens]); omega -splitDisjunctions))); all_goals try (repeat' ((first | ((with_reducible first | refine And.intro ?_ ?_ | refine Exists.intro ?_ ?_); first | omega | (simp <;> omega)) | (with_reducible refine spl (And.intro ?_ ?_) <;> intro _)) <;> ((try simp (implicitDefEqProofs := false)); (try simp (implicitDefEqProofs := false) (disch := first | assumption | (try simp only [lens]); omega -splitDisjunctions))))))
  exact ⟨fun row x y _ h => by subst h; simp, by omega⟩
end Go.Proofs.Ythnobaacfjihcaa
