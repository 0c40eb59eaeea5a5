/-
  algebra: Joins.
-/
import Derived.Test.YthnobaacfjihcaaQAg
import Derived.Test.YthnobaacfjihcaaAlgB
namespace Go.Proofs.Ythnobaacfjihcaa
open Go Go.Pv
set_option linter.unusedVariables false
set_option linter.unusedSimpArgs false
set_option maxRecDepth 100000
set_option maxHeartbeats 4000000

noncomputable def joinsR (o : Ord) : PV := if (ofault o).1 = 0 then (if isLat o.n.toNat (leB o.ps) = true then .tuple [.list ((joinsL o.n.toNat (leB o.ps) o.n.toNat).map numRow), faultA (0, 0)]
  else .tuple [.list [], faultA (6, 0)]) else .tuple [.list [], faultA (ofault o)]
def x16_T3 : XC := .seq (.reg [⟨some 78,.move (.tmp 7),none⟩,⟨some 79,.build 27 #[],none⟩,⟨some 2,.assign (.tmp 78),none⟩,⟨none,.store 27 (.tmp 3) (.tmp 79),none⟩]) (.ret)
def x16_T2 : XC := .seq (.reg [⟨some 70,.move (.tmp 9),none⟩,⟨some 71,.move (.tmp 8),none⟩,⟨some 72,.binOp .neq 3 (.tmp 70) (.tmp 71) 3,none⟩]) (.cond (.tmp 72) (.reg [⟨some 73,.move (.tmp 7),none⟩,⟨some 74,.move (.tmp 8),none⟩,⟨some 75,.buildSlice 37 1 #[(0,.tmp 74)],none⟩,⟨some 76,.call ⟨.builtin .append,#[.tmp 73,.tmp 75],#[37,37]⟩,none⟩,⟨some 7,.assign (.tmp 76),none⟩]) (.skip))
def x16_L2 : XC := .seq (.reg [⟨some 42,.binOp .lss 3 (.tmp 41) (.tmp 40) 3,none⟩]) (.seq (.cond (.tmp 42) (.skip) (.exit 2)) (.seq (.block 3 (.seq (.reg [⟨some 43,.move (.tmp 41),none⟩,⟨some 10,.assign (.tmp 43),none⟩]) (.seq (.reg [⟨some 44,.move (.tmp 10),none⟩,⟨some 45,.move (.tmp 8),none⟩,⟨some 46,.binOp .neq 3 (.tmp 44) (.tmp 45) 3,none⟩,⟨some 47,.move (.tmp 46),none⟩,⟨some 48,.move (.tmp 5),some (some 47,true)⟩,⟨some 49,.nilCheck (.tmp 48),some (some 47,true)⟩,⟨some 50,.fieldAddr 64 (.tmp 49) 0,some (some 47,true)⟩,⟨some 51,.load 59 (.tmp 50),some (some 47,true)⟩,⟨some 52,.move (.tmp 10),some (some 47,true)⟩,⟨some 53,.indexAddr 59 (.tmp 51) (.tmp 52),some (some 47,true)⟩,⟨some 54,.load 41 (.tmp 53),some (some 47,true)⟩,⟨some 55,.move (.tmp 8),some (some 47,true)⟩,⟨some 56,.indexAddr 41 (.tmp 54) (.tmp 55),some (some 47,true)⟩,⟨some 57,.load 4 (.tmp 56),some (some 47,true)⟩,⟨some 58,.pick (.tmp 47) (.tmp 57) (.const (.bool false)),none⟩]) (.cond (.tmp 58) (.reg [⟨some 59,.move (.tmp 5),none⟩,⟨some 60,.nilCheck (.tmp 59),none⟩,⟨some 61,.fieldAddr 64 (.tmp 60) 1,none⟩,⟨some 62,.load 33 (.tmp 61),none⟩,⟨some 63,.move (.tmp 9),none⟩,⟨some 64,.indexAddr 33 (.tmp 62) (.tmp 63),none⟩,⟨some 65,.load 37 (.tmp 64),none⟩,⟨some 66,.move (.tmp 10),none⟩,⟨some 67,.indexAddr 37 (.tmp 65) (.tmp 66),none⟩,⟨some 68,.load 3 (.tmp 67),none⟩,⟨some 9,.assign (.tmp 68),none⟩]) (.skip))))) (.reg [⟨some 69,.binOp .add 3 (.tmp 41) (.const (.int .i64 1)) 3,none⟩,⟨some 41,.move (.tmp 69),none⟩])))
def x16_L0 : XC := .seq (.reg [⟨some 32,.binOp .lss 3 (.tmp 31) (.tmp 30) 3,none⟩]) (.seq (.cond (.tmp 32) (.skip) (.exit 0)) (.seq (.block 1 (.seq (.reg [⟨some 33,.move (.tmp 31),none⟩,⟨some 8,.assign (.tmp 33),none⟩]) (.seq (.reg [⟨some 34,.move (.tmp 5),none⟩,⟨some 35,.call ⟨.value (.func 33),#[.tmp 34],#[57]⟩,none⟩,⟨some 9,.assign (.tmp 35),none⟩]) (.seq (.seq (.reg [⟨some 36,.move (.tmp 5),none⟩,⟨some 37,.nilCheck (.tmp 36),none⟩,⟨some 38,.fieldAddr 64 (.tmp 37) 0,none⟩,⟨some 39,.load 59 (.tmp 38),none⟩,⟨some 40,.call ⟨.builtin .len,#[.tmp 39],#[59]⟩,none⟩,⟨some 41,.move (.const (.int .i64 0)),none⟩]) (.bloop 2 x16_L2)) (x16_T2))))) (.reg [⟨some 77,.binOp .add 3 (.tmp 31) (.const (.int .i64 1)) 3,none⟩,⟨some 31,.move (.tmp 77),none⟩])))
def x16 : XC := .seq (.reg [⟨some 1,.box 24 (.tmp 0),none⟩,⟨some 2,.assign (.const (.slice none 0 0)),none⟩,⟨some 3,.alloc 27,none⟩]) (.seq (.seq (.reg [⟨some 11,.load 24 (.tmp 1),none⟩,⟨some 12,.call ⟨.value (.func 14),#[.tmp 11],#[24]⟩,none⟩,⟨some 4,.alloc 27,none⟩,⟨none,.store 27 (.tmp 4) (.tmp 12),none⟩]) (.seq (.reg [⟨some 13,.fieldAddr 27 (.tmp 4) 0,none⟩,⟨some 14,.load 3 (.tmp 13),none⟩,⟨some 15,.binOp .neq 3 (.tmp 14) (.const (.int .i64 0)) 3,none⟩]) (.cond (.tmp 15) (.seq (.drawn 3 [⟨some 16,.load 27 (.tmp 4),none⟩,⟨some 2,.assign (.const (.slice none 0 0)),none⟩,⟨none,.store 27 (.tmp 3) (.tmp 16),none⟩]) (.ret)) (.skip)))) (.seq (.reg [⟨some 18,.load 24 (.tmp 1),none⟩,⟨some 19,.call ⟨.value (.func 26),#[.tmp 18],#[24]⟩,none⟩,⟨some 20,.call ⟨.value (.func 27),#[.tmp 19],#[59]⟩,none⟩,⟨some 17,.move (.tmp 20),none⟩,⟨some 21,.extract (.tmp 17) 0,none⟩,⟨some 22,.extract (.tmp 17) 1,none⟩,⟨some 5,.assign (.tmp 21),none⟩,⟨some 6,.assign (.tmp 22),none⟩]) (.seq (.seq (.reg [⟨some 23,.move (.tmp 6),none⟩,⟨some 24,.unOp .not 4 (.tmp 23),none⟩]) (.cond (.tmp 24) (.seq (.reg [⟨some 25,.call ⟨.value (.func 32),#[.const (.int .i64 6),.const (.int .i64 0)],#[3,3]⟩,none⟩,⟨some 2,.assign (.const (.slice none 0 0)),none⟩,⟨none,.store 27 (.tmp 3) (.tmp 25),none⟩]) (.ret)) (.skip))) (.seq (.reg [⟨some 7,.assign (.const (.slice none 0 0)),none⟩]) (.seq (.seq (.reg [⟨some 26,.move (.tmp 5),none⟩,⟨some 27,.nilCheck (.tmp 26),none⟩,⟨some 28,.fieldAddr 64 (.tmp 27) 0,none⟩,⟨some 29,.load 59 (.tmp 28),none⟩,⟨some 30,.call ⟨.builtin .len,#[.tmp 29],#[59]⟩,none⟩,⟨some 31,.move (.const (.int .i64 0)),none⟩]) (.bloop 0 x16_L0)) (x16_T3))))))
@[simp] theorem x16_s {C : WC} {e : AE} {s : Store} {K : KS} : type_of% (@X_at C e s K _ _ x16_T3.eq_1) ∧ type_of% (@X_at C e s K _ _ x16_T2.eq_1) ∧ type_of% (@X_at C e s K _ _ x16_L2.eq_1) ∧ type_of% (@X_at C e s K _ _ x16_L0.eq_1) ∧ type_of% (@X_at C e s K _ _ x16.eq_1) := ⟨X_at x16_T3.eq_1, X_at x16_T2.eq_1, X_at x16_L2.eq_1, X_at x16_L0.eq_1, X_at x16.eq_1⟩
def an16 : Ann := ⟨[], [(2, [], [3, 5, 7, 8, 9, 30, 31, 40, 41], [3, 5, 7, 8, 9, 30, 31]), (0, [(7, none, 1)], [3, 5, 7, 30, 31], [3, 7])], []⟩
def cx16 (P : Program) (m : Nat) : WC := ⟨P, m, an16⟩
@[simp] theorem cx16_a {P : Program} {m : Nat} : (cx16 P m).P = P ∧ (cx16 P m).m = m ∧ (cx16 P m).A.clsOf 3 = .draw ∧ (cx16 P m).A.frzOf 3 = [] ∧ (cx16 P m).A.loopOf 2 = ([], [3, 5, 7, 8, 9, 30, 31, 40, 41], [3, 5, 7, 8, 9, 30, 31]) ∧ (cx16 P m).A.loopOf 0 = ([(7, none, 1)], [3, 5, 7, 30, 31], [3, 7]) := ⟨rfl, rfl, rfl, rfl, rfl, rfl⟩
instance {P : Program} {m f : Nat} [h : EnT P f] : EnT (cx16 P m).P f := h
theorem chk16 : ∀ c, Try.f16.body = some c → chkC Try.f16.ntmps an16 c = true := by intro c h; obtain rfl := Option.some.inj h; decide +kernel
theorem os16 {args : List PV} {v : PV} (h : X (cx16 Try.prog 0) x16 (argsA 0 args) [] (.fin [.tmp 2, .cell 3 27] fun v1 s1 => softV (deref s1 6 v1) = v)) (hl : args.length ≤ Try.f16.ntmps := by rw [Try.ntmps16]; simp) : CallOK Try.prog 16 args [] v [] :=
  callXF (m := 0) (cx16 Try.prog 0) x16 rfl rfl (by kernel_rfl) Try.func16 rfl rfl hl mixed (chk16 _ rfl) (by rw [Try.results16]; exact h)

theorem Joins_algebra (o : Ord) : CallOK Try.prog 16 [.agg (ord o)] [] (joinsR o) [] := by
  have hck := Check_algebra o
  unfold joinsR faultA
  by_cases hz : (ofault o).1 = 0
  · obtain ⟨h0, h1, h2, h3, h4, h5⟩ := ofault_ok hz
    have hPO := leB_PO hz
    rw [if_pos hz]
    rw [h0] at hck
    obtain ⟨n, E⟩ := o
    simp only at h1 h2 h3 h4 h5 hPO ⊢
    obtain ⟨n, rfl⟩ : ∃ k : Nat, n = (k : Int) := ⟨n.toNat, by omega⟩
    have hn := newTable_algebra ⟨n, E⟩ n rfl (by omega) h4
    have hl := lattice_algebra n (by omega) (leB E)
    simp only [Int.toNat_natCast] at hPO ⊢
    simp only [ord] at hck hn
    generalize leB E = g at hn hl hPO ⊢
    refine os16 ?_
    unfold latV at hl
    cases hL : isLat n g with
    | false =>
      rw [hL] at hl
      simp only [Bool.false_eq_true, if_false, ord] at hl ⊢
      (((try simp (implicitDefEqProofs := false)); (try simp (implicitDefEqProofs := false) (disch := first | assumption | (try simp only [lens]); omega -splitDisjunctions))); all_goals try (repeat' ((first | ((with_reducible first | refine And.intro ?_ ?_ | refine Exists.intro ?_ ?_); first | omega | (simp <;> omega)) | (with_reducible refine spl (And.intro ?_ ?_) <;> intro _) | (refine CL.clo (hck) ?_) | (refine CM.clo (hck) ?_) | (refine CD.clo (hck) ?_) | (refine CL.clo (hn) ?_) | (refine CM.clo (hn) ?_) | (refine CD.clo (hn) ?_) | (refine CL.clo (hl) ?_) | (refine CM.clo (hl) ?_) | (refine CD.clo (hl) ?_) | (refine CL.clo (fault_algebra _ _) ?_) | (refine CM.clo (fault_algebra _ _) ?_) | (refine CD.clo (fault_algebra _ _) ?_)) <;> ((try simp (implicitDefEqProofs := false)); (try simp (implicitDefEqProofs := false) (disch := first | assumption | (try simp only [lens]); omega -splitDisjunctions))))))
    | true =>
      rw [hL, latC_N hL] at hl
      simp only [if_true, ord] at hl ⊢
      have hj := fun a b ha hb => (joinI_jn hL (a := a) (b := b) ha hb).2
      have hm := fun a b ha hb => (meetI_mt hL (a := a) (b := b) ha hb).2
      have hb := bottom_algebra n (by omega) (by omega) g (jn n g) (mt n g) hm
      replace hb : CallOK Try.prog 33 [.iptr (latN n g (jn n g) (mt n g))] [] (.int .i64 (botL n g : Nat)) [] := hb
      have hbn : botL n g < n := by
        have hLa : La n g := ⟨hPO, hL⟩
        exact (hLa.flip.top (by omega)).1
      unfold joinsL
      have hbelow : ∀ x, belowL n g x = (List.range n).foldl (belowS n g x) (botL n g) := fun x => rfl
      have hbS : ∀ x b y, belowS n g x b y = if y ≠ x ∧ g y x = true then jn n g b y else b := fun _ _ _ => rfl
      generalize belowL n g = B at hbelow ⊢
      generalize belowS n g = S at hbelow hbS ⊢
      generalize botL n g = bot at hb hbelow hbn ⊢
      generalize jn n g = j at *
      generalize mt n g = m at *
      clear hL hPO
      (((try simp (implicitDefEqProofs := false) [latN]); (try simp (implicitDefEqProofs := false) (disch := first | assumption | (try simp only [lens]); omega -splitDisjunctions) [latN])); all_goals try (repeat' ((first | ((with_reducible first | refine And.intro ?_ ?_ | refine Exists.intro ?_ ?_); first | omega | (simp <;> omega)) | (with_reducible refine spl (And.intro ?_ ?_) <;> intro _) | (refine CL.clo (hck) ?_) | (refine CM.clo (hck) ?_) | (refine CD.clo (hck) ?_) | (refine CL.clo (hn) ?_) | (refine CM.clo (hn) ?_) | (refine CD.clo (hn) ?_) | (refine CL.clo (hl) ?_) | (refine CM.clo (hl) ?_) | (refine CD.clo (hl) ?_)) <;> ((try simp (implicitDefEqProofs := false) [latN]); (try simp (implicitDefEqProofs := false) (disch := first | assumption | (try simp only [lens]); omega -splitDisjunctions) [latN])))))
      refine W_of fun Q hQ => ?_
      have main : ∀ k x, x + k = n → Q [(3, .ptr 0 0 0), (5, .iptr (latN n g j m)), (7, .sl 1 0 ((List.range x).filter fun x => !decide (B x = x)).length), (30, .int .i64 (n : Int)), (31, .int .i64 (x : Int))] [.rows 2 [[.int .i64 0, .int .i64 0]], .rows 1 (((List.range x).filter fun x => !decide (B x = x)).map numRow)] := by
        intro k
        induction k with
        | zero =>
          intro x hx
          obtain rfl : x = n := by omega
          generalize (List.range x).filter (fun x => !decide (B x = x)) = l at *
          apply hQ
          clear hQ
          (((try simp (implicitDefEqProofs := false) [latN]); (try simp (implicitDefEqProofs := false) (disch := first | assumption | (try simp only [lens]); omega -splitDisjunctions) [latN])); all_goals try (repeat' ((first | ((with_reducible first | refine And.intro ?_ ?_ | refine Exists.intro ?_ ?_); first | omega | (simp <;> omega)) | (with_reducible refine spl (And.intro ?_ ?_) <;> intro _)) <;> ((try simp (implicitDefEqProofs := false) [latN]); (try simp (implicitDefEqProofs := false) (disch := first | assumption | (try simp only [lens]); omega -splitDisjunctions) [latN])))))
        | succ k ih =>
          intro x hx
          have hxn : x < n := by omega
          have ih := ih (x + 1) (by omega)
          rw [List.range_succ, List.filter_append, List.filter_cons, List.filter_nil] at ih
          have hfl : ((List.range x).filter fun x => !decide (B x = x)).length ≤ 20 := by
            have := List.length_filter_le (fun x => !decide (B x = x)) (List.range x)
            rw [List.length_range] at this
            omega
          generalize (List.range x).filter (fun x => !decide (B x = x)) = l at *
          apply hQ
          clear hQ
          (((try simp (implicitDefEqProofs := false) [latN]); (try simp (implicitDefEqProofs := false) (disch := first | assumption | (try simp only [lens]); omega -splitDisjunctions) [latN])); all_goals try (repeat' ((first | ((with_reducible first | refine And.intro ?_ ?_ | refine Exists.intro ?_ ?_); first | omega | (simp <;> omega)) | (with_reducible refine spl (And.intro ?_ ?_) <;> intro _) | (refine CL.clo (hb) ?_) | (refine CM.clo (hb) ?_) | (refine CD.clo (hb) ?_)) <;> ((try simp (implicitDefEqProofs := false) [latN]); (try simp (implicitDefEqProofs := false) (disch := first | assumption | (try simp only [lens]); omega -splitDisjunctions) [latN])))))
          refine W_of fun Q2 hQ2 => ?_
          have main2 : ∀ k y b, y + k = n → b < n → B x = ((List.range n).drop y).foldl (S x) b → Q2 [(3, .ptr 0 0 0), (5, .iptr (latN n g j m)), (7, .sl 1 0 l.length), (8, .int .i64 (x : Int)), (9, .int .i64 (b : Int)), (30, .int .i64 (n : Int)), (31, .int .i64 (x : Int)), (40, .int .i64 (n : Int)), (41, .int .i64 (y : Int))] [.rows 2 [[.int .i64 0, .int .i64 0]], .rows 1 (l.map numRow)] := by
            intro k
            induction k with
            | zero =>
              intro y b hy hbn2 hB
              rw [List.drop_of_length_le (by simp; omega), List.foldl_nil] at hB
              rw [hB] at ih
              apply hQ2
              clear hQ2
              by_cases hbx : b = x
              · simp only [hbx, decide_true, Bool.not_true, Bool.false_eq_true, if_false, List.append_nil] at ih
                (((try simp (implicitDefEqProofs := false) [latN, hbx]); (try simp (implicitDefEqProofs := false) (disch := first | assumption | (try simp only [lens]); omega -splitDisjunctions) [latN, hbx])); all_goals try (repeat' ((first | ((with_reducible first | refine And.intro ?_ ?_ | refine Exists.intro ?_ ?_); first | omega | (simp <;> omega)) | (with_reducible refine spl (And.intro ?_ ?_) <;> intro _)) <;> ((try simp (implicitDefEqProofs := false) [latN, hbx]); (try simp (implicitDefEqProofs := false) (disch := first | assumption | (try simp only [lens]); omega -splitDisjunctions) [latN, hbx])))))
                all_goals first | exact ih | (refine at2 ih ?_ ?_ <;> simp [latN, numRow]; done) | (exfalso; first | omega | (simp_all; done) | (simp_all; omega))
              · simp only [hbx, decide_false, Bool.not_false, if_true] at ih
                (((try simp (implicitDefEqProofs := false) [latN, hbx]); (try simp (implicitDefEqProofs := false) (disch := first | assumption | (try simp only [lens]); omega -splitDisjunctions) [latN, hbx])); all_goals try (repeat' ((first | ((with_reducible first | refine And.intro ?_ ?_ | refine Exists.intro ?_ ?_); first | omega | (simp <;> omega)) | (with_reducible refine spl (And.intro ?_ ?_) <;> intro _)) <;> ((try simp (implicitDefEqProofs := false) [latN, hbx]); (try simp (implicitDefEqProofs := false) (disch := first | assumption | (try simp only [lens]); omega -splitDisjunctions) [latN, hbx])))))
                all_goals first | exact ih | (refine at2 ih ?_ ?_ <;> simp [latN, numRow]; done) | (exfalso; first | omega | (simp_all; done) | (simp_all; omega))
            | succ k ih2 =>
              intro y b hy hbn2 hB
              have hyn : y < n := by omega
              rw [List.drop_eq_getElem_cons (by simpa using hyn), List.foldl_cons, List.getElem_range] at hB
              have hjb := hj b y hbn2 hyn
              have hs := hbS x b y
              have ih2 := fun h => ih2 (y + 1) (S x b y) (by omega) h hB
              rw [hs] at ih2
              apply hQ2
              clear hQ2
              by_cases hyx : y = x
              · simp only [hyx, ne_eq, not_true_eq_false, false_and, if_false] at ih2
                (((try simp (implicitDefEqProofs := false) [latN, hyx]); (try simp (implicitDefEqProofs := false) (disch := first | assumption | (try simp only [lens]); omega -splitDisjunctions) [latN, hyx])); all_goals try (repeat' ((first | ((with_reducible first | refine And.intro ?_ ?_ | refine Exists.intro ?_ ?_); first | omega | (simp <;> omega)) | (with_reducible refine spl (And.intro ?_ ?_) <;> intro _)) <;> ((try simp (implicitDefEqProofs := false) [latN, hyx]); (try simp (implicitDefEqProofs := false) (disch := first | assumption | (try simp only [lens]); omega -splitDisjunctions) [latN, hyx])))))
                all_goals first | exact (ih2 (by omega)) | (refine at2 (ih2 (by omega)) ?_ ?_ <;> simp [latN, numRow, hyx]; done) | (exfalso; first | omega | (simp_all; done) | (simp_all; omega))
              · cases hg : g y x
                · simp only [hg, Bool.false_eq_true, and_false, if_false] at ih2
                  (((try simp (implicitDefEqProofs := false) [latN, hyx, hg, hyn, hxn, tabRowF, tabF_get, rowF_get]); (try simp (implicitDefEqProofs := false) (disch := first | assumption | (try simp only [lens]); omega -splitDisjunctions) [latN, hyx, hg, hyn, hxn, tabRowF, tabF_get, rowF_get])); all_goals try (repeat' ((first | ((with_reducible first | refine And.intro ?_ ?_ | refine Exists.intro ?_ ?_); first | omega | (simp <;> omega)) | (with_reducible refine spl (And.intro ?_ ?_) <;> intro _)) <;> ((try simp (implicitDefEqProofs := false) [latN, hyx, hg, hyn, hxn, tabRowF, tabF_get, rowF_get]); (try simp (implicitDefEqProofs := false) (disch := first | assumption | (try simp only [lens]); omega -splitDisjunctions) [latN, hyx, hg, hyn, hxn, tabRowF, tabF_get, rowF_get])))))
                  all_goals first | exact (ih2 (by omega)) | (refine at2 (ih2 (by omega)) ?_ ?_ <;> simp [latN, numRow, hyx]; done) | (exfalso; first | omega | (simp_all; done) | (simp_all; omega))
                · simp only [hg, hyx, ne_eq, not_false_eq_true, and_self, if_true] at ih2
                  (((try simp (implicitDefEqProofs := false) [latN, hyx, hg, hyn, hxn, hbn2, tabRowF, tabF_get, rowF_get, nRow, nCell]); (try simp (implicitDefEqProofs := false) (disch := first | assumption | (try simp only [lens]); omega -splitDisjunctions) [latN, hyx, hg, hyn, hxn, hbn2, tabRowF, tabF_get, rowF_get, nRow, nCell])); all_goals try (repeat' ((first | ((with_reducible first | refine And.intro ?_ ?_ | refine Exists.intro ?_ ?_); first | omega | (simp <;> omega)) | (with_reducible refine spl (And.intro ?_ ?_) <;> intro _)) <;> ((try simp (implicitDefEqProofs := false) [latN, hyx, hg, hyn, hxn, hbn2, tabRowF, tabF_get, rowF_get, nRow, nCell]); (try simp (implicitDefEqProofs := false) (disch := first | assumption | (try simp only [lens]); omega -splitDisjunctions) [latN, hyx, hg, hyn, hxn, hbn2, tabRowF, tabF_get, rowF_get, nRow, nCell])))))
                  all_goals first | exact (ih2 (by omega)) | (refine at2 (ih2 (by omega)) ?_ ?_ <;> simp [latN, numRow, hyx]; done) | (exfalso; first | omega | (simp_all; done) | (simp_all; omega))
          refine at2 (main2 _ 0 bot (Nat.zero_add _) hbn (hbelow x)) ?_ ?_ <;> simp [latN]
      refine at2 (main _ 0 (Nat.zero_add _)) ?_ ?_ <;> simp [latN]
  · rw [if_neg hz]
    generalize ofault o = w at hck hz ⊢
    obtain ⟨n, E⟩ := o
    simp only [ord] at hck
    refine os16 ?_
    simp only [ord]
    (((try simp (implicitDefEqProofs := false) [hz]); (try simp (implicitDefEqProofs := false) (disch := first | assumption | (try simp only [lens]); omega -splitDisjunctions) [hz])); all_goals try (repeat' ((first | ((with_reducible first | refine And.intro ?_ ?_ | refine Exists.intro ?_ ?_); first | omega | (simp <;> omega)) | (with_reducible refine spl (And.intro ?_ ?_) <;> intro _) | (refine CL.clo (hck) ?_) | (refine CM.clo (hck) ?_) | (refine CD.clo (hck) ?_)) <;> ((try simp (implicitDefEqProofs := false) [hz]); (try simp (implicitDefEqProofs := false) (disch := first | assumption | (try simp only [lens]); omega -splitDisjunctions) [hz])))))
end Go.Proofs.Ythnobaacfjihcaa
