/-
  truth: rows, Rows.
-/
import Derived.Test.YtbmpmmbcfabeeaaTrP
namespace Go.Proofs.Ytbmpmmbcfabeeaa
open Go Go.Pv
set_option linter.unusedVariables false
set_option linter.unusedSimpArgs false
set_option maxRecDepth 100000
set_option maxHeartbeats 4000000

def x111 : XC := .seq (.reg [⟨some 4,.assign (.const (.bool false)),none⟩]) (.seq (.drawn 1 [⟨some 5,.load 46 (.tmp 1),none⟩,⟨some 6,.load 24 (.tmp 2),none⟩,⟨some 7,.move (.tmp 0),none⟩,⟨some 8,.call ⟨.value (.func 85),#[.tmp 6,.tmp 7],#[24,116]⟩,none⟩,⟨some 9,.buildSlice 46 1 #[(0,.tmp 8)],none⟩,⟨some 10,.call ⟨.builtin .append,#[.tmp 5,.tmp 9],#[46,46]⟩,none⟩,⟨none,.store 46 (.tmp 1) (.tmp 10),none⟩]) (.seq (.reg [⟨some 4,.assign (.const (.bool true)),none⟩]) (.ret)))
@[simp] theorem x111_s {C : WC} {e : AE} {s : Store} {K : KS} : type_of% (@X_at C e s K _ _ x111.eq_1) := X_at x111.eq_1
def an111 : Ann := ⟨[(1, .mix 5)], [], []⟩
def cx111 (P : Program) (m : Nat) : WC := ⟨P, m, an111⟩
@[simp] theorem cx111_a {P : Program} {m : Nat} : (cx111 P m).P = P ∧ (cx111 P m).m = m ∧ (cx111 P m).A.clsOf 1 = .mix 5 ∧ (cx111 P m).A.frzOf 1 = [] := ⟨rfl, rfl, rfl, rfl⟩
instance {P : Program} {m f : Nat} [h : EnT P f] : EnT (cx111 P m).P f := h
theorem chk111 : ∀ c, Try.f111.body = some c → chkC Try.f111.ntmps an111 c = true := by intro c h; obtain rfl := Option.some.inj h; decide +kernel
theorem og111 {args : List PV} {v : PV} {s s' : Store} (h : X (cx111 Try.prog s.length) x111 (argsA 0 args) s (.fin [.tmp 4] (gcFin s.length v s'))) (hl : args.length ≤ Try.f111.ntmps := by rw [Try.ntmps111]; simp) : CallOK Try.prog 111 args s v s' :=
  callXG (m := 0) (cx111 Try.prog s.length) x111 rfl rfl (by kernel_rfl) Try.func111 rfl rfl hl mixed (chk111 _ rfl) (by rw [Try.results111]; exact h)

theorem Rows1_first (l : List (ByteArray × Bool)) (f : Fm) (hf : Pl f) : CallOK Try.prog 111 [.imap (entsB l), .ptr 0 0 0, .ptr 1 0 0] [.rows 1 [[.nilsl]], .rows 3 [frm f]] (.bool true)
    [.rows 1 [[.sl 2 0 1]], .rows 3 [frm f], .rows 1 [[.bool (tv (lkB l) f)]]] := by
  have hv := value_truth l f hf
  refine og111 ?_
  (((try simp (implicitDefEqProofs := false)); (try simp (implicitDefEqProofs := false) (disch := first | assumption | (try simp only [lens]); omega -splitDisjunctions))); all_goals try (repeat' ((first | ((with_reducible first | refine And.intro ?_ ?_ | refine Exists.intro ?_ ?_); first | omega | (simp <;> omega)) | (with_reducible refine spl (And.intro ?_ ?_) <;> intro _) | (refine CL.clo (hv) ?_) | (refine CM.clo (hv) ?_) | (refine CD.clo (hv) ?_)) <;> ((try simp (implicitDefEqProofs := false)); (try simp (implicitDefEqProofs := false) (disch := first | assumption | (try simp only [lens]); omega -splitDisjunctions))))))
theorem Rows1_next (l : List (ByteArray × Bool)) (f : Fm) (hf : Pl f) (bs : List Bool) (hb : bs.length ≤ 100000) : CallOK Try.prog 111 [.imap (entsB l), .ptr 0 0 0, .ptr 1 0 0] [.rows 1 [[.sl 2 0 bs.length]], .rows 3 [frm f], .rows 1 (bs.map boolRow)] (.bool true)
    [.rows 1 [[.sl 3 0 (bs.length + 1)]], .rows 3 [frm f], .dead, .rows 1 ((bs ++ [tv (lkB l) f]).map boolRow)] := by
  have hv := value_truth l f hf
  refine og111 ?_
  (((try simp (implicitDefEqProofs := false)); (try simp (implicitDefEqProofs := false) (disch := first | assumption | (try simp only [lens]); omega -splitDisjunctions))); all_goals try (repeat' ((first | ((with_reducible first | refine And.intro ?_ ?_ | refine Exists.intro ?_ ?_); first | omega | (simp <;> omega)) | (with_reducible refine spl (And.intro ?_ ?_) <;> intro _) | (refine CL.clo (hv) ?_) | (refine CM.clo (hv) ?_) | (refine CD.clo (hv) ?_)) <;> ((try simp (implicitDefEqProofs := false)); (try simp (implicitDefEqProofs := false) (disch := first | assumption | (try simp only [lens]); omega -splitDisjunctions))))))
  omega
def x83_T2 : XC := .seq (.reg [⟨some 30,.move (.tmp 1),none⟩,⟨some 31,.move (.tmp 5),none⟩,⟨some 32,.call ⟨.value (.tmp 30),#[.tmp 31],#[116]⟩,none⟩,⟨some 33,.unOp .not 4 (.tmp 32),none⟩]) (.cond (.tmp 33) (.ret) (.skip))
def x83_L2 : XC := .seq (.reg [⟨some 18,.binOp .lss 3 (.tmp 17) (.tmp 16) 3,none⟩]) (.seq (.cond (.tmp 18) (.skip) (.exit 2)) (.seq (.block 3 (.seq (.reg [⟨some 19,.move (.tmp 17),none⟩,⟨some 20,.indexAddr 53 (.tmp 15) (.tmp 17),none⟩,⟨some 21,.load 9 (.tmp 20),none⟩,⟨some 6,.assign (.tmp 19),none⟩,⟨some 7,.assign (.tmp 21),none⟩]) (.reg [⟨some 22,.move (.tmp 5),none⟩,⟨some 23,.move (.tmp 7),none⟩,⟨some 24,.move (.tmp 4),none⟩,⟨some 25,.move (.tmp 6),none⟩,⟨some 26,.binOp .shr 3 (.tmp 24) (.tmp 25) 3,none⟩,⟨some 27,.binOp .and 3 (.tmp 26) (.const (.int .i64 1)) 3,none⟩,⟨some 28,.binOp .eql 3 (.tmp 27) (.const (.int .i64 1)) 3,none⟩,⟨none,.mapUpdate 116 (.tmp 22) (.tmp 23) (.tmp 28),none⟩]))) (.reg [⟨some 29,.binOp .add 3 (.tmp 17) (.const (.int .i64 1)) 3,none⟩,⟨some 17,.move (.tmp 29),none⟩])))
def x83_L0 : XC := .seq (.reg [⟨some 12,.binOp .lss 3 (.tmp 11) (.tmp 10) 3,none⟩]) (.seq (.cond (.tmp 12) (.skip) (.exit 0)) (.seq (.block 1 (.seq (.reg [⟨some 13,.move (.tmp 11),none⟩,⟨some 4,.assign (.tmp 13),none⟩]) (.seq (.reg [⟨some 14,.makeMap 116 none,none⟩,⟨some 5,.assign (.tmp 14),none⟩]) (.seq (.seq (.reg [⟨some 15,.move (.tmp 0),none⟩,⟨some 16,.call ⟨.builtin .len,#[.tmp 15],#[53]⟩,none⟩,⟨some 17,.move (.const (.int .i64 0)),none⟩]) (.bloop 2 x83_L2)) (x83_T2))))) (.reg [⟨some 34,.binOp .add 3 (.tmp 11) (.const (.int .i64 1)) 3,none⟩,⟨some 11,.move (.tmp 34),none⟩])))
def x83 : XC := .seq (.reg [⟨some 8,.move (.tmp 0),none⟩,⟨some 9,.call ⟨.builtin .len,#[.tmp 8],#[53]⟩,none⟩,⟨some 10,.binOp .shl 3 (.const (.int .i64 1)) (.tmp 9) 3,none⟩,⟨some 11,.move (.const (.int .i64 0)),none⟩]) (.bloop 0 x83_L0)
@[simp] theorem x83_s {C : WC} {e : AE} {s : Store} {K : KS} : type_of% (@X_at C e s K _ _ x83_T2.eq_1) ∧ type_of% (@X_at C e s K _ _ x83_L2.eq_1) ∧ type_of% (@X_at C e s K _ _ x83_L0.eq_1) ∧ type_of% (@X_at C e s K _ _ x83.eq_1) := ⟨X_at x83_T2.eq_1, X_at x83_L2.eq_1, X_at x83_L0.eq_1, X_at x83.eq_1⟩
def an83 : Ann := ⟨[], [(2, [], [0, 1, 4, 5, 10, 11, 15, 16, 17], [0, 1, 5, 10, 11]), (0, [], [0, 1, 10, 11], [])], []⟩
def cx83 (P : Program) (m : Nat) : WC := ⟨P, m, an83⟩
@[simp] theorem cx83_a {P : Program} {m : Nat} : (cx83 P m).P = P ∧ (cx83 P m).m = m ∧ (cx83 P m).A.loopOf 2 = ([], [0, 1, 4, 5, 10, 11, 15, 16, 17], [0, 1, 5, 10, 11]) ∧ (cx83 P m).A.loopOf 0 = ([], [0, 1, 10, 11], []) := ⟨rfl, rfl, rfl, rfl⟩
instance {P : Program} {m f : Nat} [h : EnT P f] : EnT (cx83 P m).P f := h
theorem chk83 : ∀ c, Try.f83.body = some c → chkC Try.f83.ntmps an83 c = true := by intro c h; obtain rfl := Option.some.inj h; decide +kernel
theorem og83 {args : List PV} {v : PV} {s s' : Store} (h : X (cx83 Try.prog s.length) x83 (argsA 0 args) s (.fin [] (gcFin s.length v s'))) (hl : args.length ≤ Try.f83.ntmps := by rw [Try.ntmps83]; simp) : CallOK Try.prog 83 args s v s' :=
  callXG (m := 0) (cx83 Try.prog s.length) x83 rfl rfl (by kernel_rfl) Try.func83 rfl rfl hl mixed (chk83 _ rfl) (by rw [Try.results83]; exact h)

theorem rows_Rows (ns : List ByteArray) (hd : ns.Nodup) (hn : ns.length ≤ 10) (f : Fm) (hf : Pl f) : CallOK Try.prog 83 [.list (ns.map strRow), .fn (.func 111) [] [.ptr 0 0 0, .ptr 1 0 0]] [.rows 1 [[.nilsl]], .rows 3 [frm f]] (.tuple [])
    [.rows 1 [[.sl 2 0 (2 ^ ns.length)]], .rows 3 [frm f], .rows 1 ((rowsB ns f).map boolRow)] := by
  refine og83 ?_
  have hsh := shl_nat ns.length (by omega)
  have hM : 1 ≤ 2 ^ ns.length ∧ 2 ^ ns.length ≤ 1024 := ⟨Nat.one_le_two_pow, Nat.le_trans (Nat.pow_le_pow_right (by decide) hn) (by decide)⟩
  have hbl : (rowsB ns f).length = 2 ^ ns.length := by simp [rowsB]
  have hbg : ∀ k (h : k < (rowsB ns f).length), (rowsB ns f)[k] = tv (lkB (bitsL ns k)) f := fun k h => by simp [rowsB, lk_bits ns hd]
  generalize 2 ^ ns.length = M at *
  generalize rowsB ns f = B at *
  (((try simp (implicitDefEqProofs := false) [hsh]); (try simp (implicitDefEqProofs := false) (disch := first | assumption | (try simp only [lens]); omega -splitDisjunctions) [hsh])); all_goals try (repeat' ((first | ((with_reducible first | refine And.intro ?_ ?_ | refine Exists.intro ?_ ?_); first | omega | (simp <;> omega)) | (with_reducible refine spl (And.intro ?_ ?_) <;> intro _)) <;> ((try simp (implicitDefEqProofs := false) [hsh]); (try simp (implicitDefEqProofs := false) (disch := first | assumption | (try simp only [lens]); omega -splitDisjunctions) [hsh])))))
  refine W_of fun Q hQ => ?_
  have main : ∀ r k, 1 ≤ k → k + r = M → Q [(0, .list (ns.map strRow)), (1, .fn (.func 111) [] [.ptr 0 0 0, .ptr 1 0 0]), (10, .int .i64 (M : Int)), (11, .int .i64 (k : Int))] [.rows 1 [[.sl 2 0 k]], .rows 3 [frm f], .rows 1 ((B.take k).map boolRow)] := by
    intro r
    induction r with
    | zero =>
      intro k h1 hk
      obtain rfl : k = M := by omega
      rw [List.take_of_length_le (by omega)]
      apply hQ
      clear hQ
      (((try simp (implicitDefEqProofs := false) [hbl]); (try simp (implicitDefEqProofs := false) (disch := first | assumption | (try simp only [lens]); omega -splitDisjunctions) [hbl])); all_goals try (repeat' ((first | ((with_reducible first | refine And.intro ?_ ?_ | refine Exists.intro ?_ ?_); first | omega | (simp <;> omega)) | (with_reducible refine spl (And.intro ?_ ?_) <;> intro _)) <;> ((try simp (implicitDefEqProofs := false) [hbl]); (try simp (implicitDefEqProofs := false) (disch := first | assumption | (try simp only [lens]); omega -splitDisjunctions) [hbl])))))
    | succ r ih =>
      intro k h1 hk
      have ih := ih (k + 1) (by omega) (by omega)
      have hkM : k < M := by omega
      have hkB : k < B.length := by omega
      have hbk := hbg k hkB
      rw [take_snoc hkB, hbk] at ih
      have hnx := Rows1_next (bitsL ns k) f hf (B.take k) (by simp; omega)
      rw [List.length_take, Nat.min_eq_left (by omega)] at hnx
      generalize B.take k = Bk at *
      apply hQ
      clear hQ
      (((try simp (implicitDefEqProofs := false) [hkM]); (try simp (implicitDefEqProofs := false) (disch := first | assumption | (try simp only [lens]); omega -splitDisjunctions) [hkM])); all_goals try (repeat' ((first | ((with_reducible first | refine And.intro ?_ ?_ | refine Exists.intro ?_ ?_); first | omega | (simp <;> omega)) | (with_reducible refine spl (And.intro ?_ ?_) <;> intro _)) <;> ((try simp (implicitDefEqProofs := false) [hkM]); (try simp (implicitDefEqProofs := false) (disch := first | assumption | (try simp only [lens]); omega -splitDisjunctions) [hkM])))))
      refine W_of fun Q2 hQ2 => ?_
      have main2 : ∀ j i, i + j = ns.length → Q2 [(0, .list (ns.map strRow)), (1, .fn (.func 111) [] [.ptr 0 0 0, .ptr 1 0 0]), (4, .int .i64 (k : Int)), (5, .mapv 3), (10, .int .i64 (M : Int)), (11, .int .i64 (k : Int)), (15, .list (ns.map strRow)), (16, .int .i64 (ns.length : Int)), (17, .int .i64 (i : Int))]
          [.rows 1 [[.sl 2 0 k]], .rows 3 [frm f], .rows 1 (Bk.map boolRow), .map (entsB ((bitsL ns k).take i))] := by
        intro j
        induction j with
        | zero =>
          intro i hi
          rw [List.take_of_length_le (by simp; omega)]
          generalize bitsL ns k = es at *
          apply hQ2
          clear hQ2
          (((try simp (implicitDefEqProofs := false)); (try simp (implicitDefEqProofs := false) (disch := first | assumption | (try simp only [lens]); omega -splitDisjunctions))); all_goals try (repeat' ((first | ((with_reducible first | refine And.intro ?_ ?_ | refine Exists.intro ?_ ?_); first | omega | (simp <;> omega)) | (with_reducible refine spl (And.intro ?_ ?_) <;> intro _)) <;> ((try simp (implicitDefEqProofs := false)); (try simp (implicitDefEqProofs := false) (disch := first | assumption | (try simp only [lens]); omega -splitDisjunctions))))))
          refine CL.giv [3] ?_
          (((try simp (implicitDefEqProofs := false)); (try simp (implicitDefEqProofs := false) (disch := first | assumption | (try simp only [lens]); omega -splitDisjunctions))); all_goals try (repeat' ((first | ((with_reducible first | refine And.intro ?_ ?_ | refine Exists.intro ?_ ?_); first | omega | (simp <;> omega)) | (with_reducible refine spl (And.intro ?_ ?_) <;> intro _)) <;> ((try simp (implicitDefEqProofs := false)); (try simp (implicitDefEqProofs := false) (disch := first | assumption | (try simp only [lens]); omega -splitDisjunctions))))))
          refine CL.sub [0, 1, 2] (hc := by simpa using hnx) ?_
          (((try simp (implicitDefEqProofs := false)); (try simp (implicitDefEqProofs := false) (disch := first | assumption | (try simp only [lens]); omega -splitDisjunctions))); all_goals try (repeat' ((first | ((with_reducible first | refine And.intro ?_ ?_ | refine Exists.intro ?_ ?_); first | omega | (simp <;> omega)) | (with_reducible refine spl (And.intro ?_ ?_) <;> intro _)) <;> ((try simp (implicitDefEqProofs := false)); (try simp (implicitDefEqProofs := false) (disch := first | assumption | (try simp only [lens]); omega -splitDisjunctions))))))
          all_goals first | exact ih | (refine at2 ih ?_ ?_ <;> simp; done) | (exfalso; first | omega | (simp_all; done) | (simp_all; omega))
        | succ j ih2 =>
          intro i hi
          have hin : i < ns.length := by omega
          have ih2 := ih2 (i + 1) (by omega)
          rw [bits_step k i hin] at ih2
          have hnw := bits_new hd k i hin
          have hhb := has_bits k i (by omega)
          generalize (bitsL ns k).take i = es at *
          generalize k.testBit i = b at *
          apply hQ2
          clear hQ2
          cases b
          · (((try simp (implicitDefEqProofs := false) [hin, hnw, hhb]); (try simp (implicitDefEqProofs := false) (disch := first | assumption | (try simp only [lens]); omega -splitDisjunctions) [hin, hnw, hhb])); all_goals try (repeat' ((first | ((with_reducible first | refine And.intro ?_ ?_ | refine Exists.intro ?_ ?_); first | omega | (simp <;> omega)) | (with_reducible refine spl (And.intro ?_ ?_) <;> intro _)) <;> ((try simp (implicitDefEqProofs := false) [hin, hnw, hhb]); (try simp (implicitDefEqProofs := false) (disch := first | assumption | (try simp only [lens]); omega -splitDisjunctions) [hin, hnw, hhb])))))
            all_goals first | exact ih2 | (refine at2 ih2 ?_ ?_ <;> simp; done) | (exfalso; first | omega | (simp_all; done) | (simp_all; omega))
          · (((try simp (implicitDefEqProofs := false) [hin, hnw, hhb]); (try simp (implicitDefEqProofs := false) (disch := first | assumption | (try simp only [lens]); omega -splitDisjunctions) [hin, hnw, hhb])); all_goals try (repeat' ((first | ((with_reducible first | refine And.intro ?_ ?_ | refine Exists.intro ?_ ?_); first | omega | (simp <;> omega)) | (with_reducible refine spl (And.intro ?_ ?_) <;> intro _)) <;> ((try simp (implicitDefEqProofs := false) [hin, hnw, hhb]); (try simp (implicitDefEqProofs := false) (disch := first | assumption | (try simp only [lens]); omega -splitDisjunctions) [hin, hnw, hhb])))))
            all_goals first | exact ih2 | (refine at2 ih2 ?_ ?_ <;> simp; done) | (exfalso; first | omega | (simp_all; done) | (simp_all; omega))
      all_goals first | exact main2 _ 0 (Nat.zero_add _) | (refine at2 main2 _ 0 (Nat.zero_add _) ?_ ?_ <;> simp; done) | (exfalso; first | omega | (simp_all; done) | (simp_all; omega))
  have m1 := main (M - 1) 1 (by omega) (by omega)
  have hB0 : 0 < B.length := by omega
  have hb0 := hbg 0 hB0
  have hM0 : 0 < M := by omega
  rw [show B.take 1 = [B[0]] from by rw [take_snoc hB0]; simp, hb0] at m1
  clear main
  have hfs := Rows1_first (bitsL ns 0) f hf
  apply hQ
  clear hQ
  (((try simp (implicitDefEqProofs := false) [hM0]); (try simp (implicitDefEqProofs := false) (disch := first | assumption | (try simp only [lens]); omega -splitDisjunctions) [hM0])); all_goals try (repeat' ((first | ((with_reducible first | refine And.intro ?_ ?_ | refine Exists.intro ?_ ?_); first | omega | (simp <;> omega)) | (with_reducible refine spl (And.intro ?_ ?_) <;> intro _)) <;> ((try simp (implicitDefEqProofs := false) [hM0]); (try simp (implicitDefEqProofs := false) (disch := first | assumption | (try simp only [lens]); omega -splitDisjunctions) [hM0])))))
  refine W_of fun Q2 hQ2 => ?_
  have main2 : ∀ j i, i + j = ns.length → Q2 [(0, .list (ns.map strRow)), (1, .fn (.func 111) [] [.ptr 0 0 0, .ptr 1 0 0]), (4, .int .i64 0), (5, .mapv 2), (10, .int .i64 (M : Int)), (11, .int .i64 0), (15, .list (ns.map strRow)), (16, .int .i64 (ns.length : Int)), (17, .int .i64 (i : Int))]
      [.rows 1 [[.nilsl]], .rows 3 [frm f], .map (entsB ((bitsL ns 0).take i))] := by
    intro j
    induction j with
    | zero =>
      intro i hi
      rw [List.take_of_length_le (by simp; omega)]
      generalize bitsL ns 0 = es at *
      apply hQ2
      clear hQ2
      (((try simp (implicitDefEqProofs := false)); (try simp (implicitDefEqProofs := false) (disch := first | assumption | (try simp only [lens]); omega -splitDisjunctions))); all_goals try (repeat' ((first | ((with_reducible first | refine And.intro ?_ ?_ | refine Exists.intro ?_ ?_); first | omega | (simp <;> omega)) | (with_reducible refine spl (And.intro ?_ ?_) <;> intro _)) <;> ((try simp (implicitDefEqProofs := false)); (try simp (implicitDefEqProofs := false) (disch := first | assumption | (try simp only [lens]); omega -splitDisjunctions))))))
      refine CL.giv [2] ?_
      (((try simp (implicitDefEqProofs := false)); (try simp (implicitDefEqProofs := false) (disch := first | assumption | (try simp only [lens]); omega -splitDisjunctions))); all_goals try (repeat' ((first | ((with_reducible first | refine And.intro ?_ ?_ | refine Exists.intro ?_ ?_); first | omega | (simp <;> omega)) | (with_reducible refine spl (And.intro ?_ ?_) <;> intro _)) <;> ((try simp (implicitDefEqProofs := false)); (try simp (implicitDefEqProofs := false) (disch := first | assumption | (try simp only [lens]); omega -splitDisjunctions))))))
      refine CL.sub [0, 1] (hc := by simpa using hfs) ?_
      (((try simp (implicitDefEqProofs := false)); (try simp (implicitDefEqProofs := false) (disch := first | assumption | (try simp only [lens]); omega -splitDisjunctions))); all_goals try (repeat' ((first | ((with_reducible first | refine And.intro ?_ ?_ | refine Exists.intro ?_ ?_); first | omega | (simp <;> omega)) | (with_reducible refine spl (And.intro ?_ ?_) <;> intro _)) <;> ((try simp (implicitDefEqProofs := false)); (try simp (implicitDefEqProofs := false) (disch := first | assumption | (try simp only [lens]); omega -splitDisjunctions))))))
      all_goals first | exact m1 | (refine at2 m1 ?_ ?_ <;> simp; done) | (exfalso; first | omega | (simp_all; done) | (simp_all; omega))
    | succ j ih2 =>
      intro i hi
      have hin : i < ns.length := by omega
      have ih2 := ih2 (i + 1) (by omega)
      rw [bits_step 0 i hin] at ih2
      have hnw := bits_new hd 0 i hin
      have hhb := has_bits 0 i (by omega)
      generalize (bitsL ns 0).take i = es at *
      generalize (0 : Nat).testBit i = b at *
      apply hQ2
      clear hQ2
      rw [Int.natCast_zero] at hhb
      cases b
      · (((try simp (implicitDefEqProofs := false) [hin, hnw, hhb]); (try simp (implicitDefEqProofs := false) (disch := first | assumption | (try simp only [lens]); omega -splitDisjunctions) [hin, hnw, hhb])); all_goals try (repeat' ((first | ((with_reducible first | refine And.intro ?_ ?_ | refine Exists.intro ?_ ?_); first | omega | (simp <;> omega)) | (with_reducible refine spl (And.intro ?_ ?_) <;> intro _)) <;> ((try simp (implicitDefEqProofs := false) [hin, hnw, hhb]); (try simp (implicitDefEqProofs := false) (disch := first | assumption | (try simp only [lens]); omega -splitDisjunctions) [hin, hnw, hhb])))))
        all_goals first | exact ih2 | (refine at2 ih2 ?_ ?_ <;> simp; done) | (exfalso; first | omega | (simp_all; done) | (simp_all; omega))
      · (((try simp (implicitDefEqProofs := false) [hin, hnw, hhb]); (try simp (implicitDefEqProofs := false) (disch := first | assumption | (try simp only [lens]); omega -splitDisjunctions) [hin, hnw, hhb])); all_goals try (repeat' ((first | ((with_reducible first | refine And.intro ?_ ?_ | refine Exists.intro ?_ ?_); first | omega | (simp <;> omega)) | (with_reducible refine spl (And.intro ?_ ?_) <;> intro _)) <;> ((try simp (implicitDefEqProofs := false) [hin, hnw, hhb]); (try simp (implicitDefEqProofs := false) (disch := first | assumption | (try simp only [lens]); omega -splitDisjunctions) [hin, hnw, hhb])))))
        all_goals first | exact ih2 | (refine at2 ih2 ?_ ?_ <;> simp; done) | (exfalso; first | omega | (simp_all; done) | (simp_all; omega))
  all_goals first | exact main2 _ 0 (Nat.zero_add _) | (refine at2 main2 _ 0 (Nat.zero_add _) ?_ ?_ <;> simp; done) | (exfalso; first | omega | (simp_all; done) | (simp_all; omega))

def x84_L0 : XC := .seq (.reg [⟨some 16,.binOp .lss 3 (.tmp 15) (.tmp 14) 3,none⟩]) (.seq (.cond (.tmp 16) (.skip) (.exit 0)) (.seq (.block 1 (.seq (.reg [⟨some 17,.indexAddr 53 (.tmp 13) (.tmp 15),none⟩,⟨some 18,.load 9 (.tmp 17),none⟩,⟨some 8,.assign (.tmp 18),none⟩]) (.seq (.reg [⟨some 19,.move (.tmp 0),none⟩,⟨some 20,.move (.tmp 8),none⟩,⟨some 21,.lookup 116 (.tmp 19) (.tmp 20) false,none⟩]) (.cond (.tmp 21) (.reg [⟨some 22,.load 53 (.tmp 4),none⟩,⟨some 23,.move (.tmp 8),none⟩,⟨some 24,.buildSlice 53 1 #[(0,.tmp 23)],none⟩,⟨some 25,.call ⟨.builtin .append,#[.tmp 22,.tmp 24],#[53,53]⟩,none⟩,⟨none,.store 53 (.tmp 4) (.tmp 25),none⟩]) (.skip))))) (.reg [⟨some 26,.binOp .add 3 (.tmp 15) (.const (.int .i64 1)) 3,none⟩,⟨some 15,.move (.tmp 26),none⟩])))
def x84 : XC := .seq (.reg [⟨some 6,.assign (.const (.bool false)),none⟩]) (.seq (.seq (.reg [⟨some 9,.load 24 (.tmp 1),none⟩,⟨some 10,.move (.tmp 0),none⟩,⟨some 11,.call ⟨.value (.func 85),#[.tmp 9,.tmp 10],#[24,116]⟩,none⟩,⟨none,.store 4 (.tmp 2) (.tmp 11),none⟩]) (.seq (.reg [⟨some 12,.load 4 (.tmp 2),none⟩]) (.cond (.tmp 12) (.seq (.reg [⟨some 6,.assign (.const (.bool true)),none⟩]) (.ret)) (.skip)))) (.seq (.seq (.reg [⟨some 13,.load 53 (.tmp 3),none⟩,⟨some 14,.call ⟨.builtin .len,#[.tmp 13],#[53]⟩,none⟩,⟨some 15,.move (.const (.int .i64 0)),none⟩]) (.bloop 0 x84_L0)) (.seq (.reg [⟨some 6,.assign (.const (.bool false)),none⟩]) (.ret))))
@[simp] theorem x84_s {C : WC} {e : AE} {s : Store} {K : KS} : type_of% (@X_at C e s K _ _ x84_L0.eq_1) ∧ type_of% (@X_at C e s K _ _ x84.eq_1) := ⟨X_at x84_L0.eq_1, X_at x84.eq_1⟩
def an84 : Ann := ⟨[], [(0, [(4, some 0, 1)], [0, 4, 13, 14, 15], [])], []⟩
def cx84 (P : Program) (m : Nat) : WC := ⟨P, m, an84⟩
@[simp] theorem cx84_a {P : Program} {m : Nat} : (cx84 P m).P = P ∧ (cx84 P m).m = m ∧ (cx84 P m).A.loopOf 0 = ([(4, some 0, 1)], [0, 4, 13, 14, 15], []) := ⟨rfl, rfl, rfl⟩
instance {P : Program} {m f : Nat} [h : EnT P f] : EnT (cx84 P m).P f := h
theorem chk84 : ∀ c, Try.f84.body = some c → chkC Try.f84.ntmps an84 c = true := by intro c h; obtain rfl := Option.some.inj h; decide +kernel
theorem og84 {args : List PV} {v : PV} {s s' : Store} (h : X (cx84 Try.prog s.length) x84 (argsA 0 args) s (.fin [.tmp 6] (gcFin s.length v s'))) (hl : args.length ≤ Try.f84.ntmps := by rw [Try.ntmps84]; simp) : CallOK Try.prog 84 args s v s' :=
  callXG (m := 0) (cx84 Try.prog s.length) x84 rfl rfl (by kernel_rfl) Try.func84 rfl rfl hl mixed (chk84 _ rfl) (by rw [Try.results84]; exact h)

theorem Valid1_yes (l : List (ByteArray × Bool)) (f : Fm) (hf : Pl f) (ns : List ByteArray) (h : tv (lkB l) f = true) : CallOK Try.prog 84 [.imap (entsB l), .ptr 0 0 0, .ptr 1 0 0, .ptr 2 0 0, .ptr 3 0 0]
    [.rows 3 [frm f], .rows 1 [[.bool true]], .rows 1 [[.list (ns.map strRow)]], .rows 1 [[.nilsl]]] (.bool true) [.rows 3 [frm f], .rows 1 [[.bool true]], .rows 1 [[.list (ns.map strRow)]], .rows 1 [[.nilsl]]] := by
  have hv := value_truth l f hf
  rw [h] at hv
  refine og84 ?_
  (((try simp (implicitDefEqProofs := false)); (try simp (implicitDefEqProofs := false) (disch := first | assumption | (try simp only [lens]); omega -splitDisjunctions))); all_goals try (repeat' ((first | ((with_reducible first | refine And.intro ?_ ?_ | refine Exists.intro ?_ ?_); first | omega | (simp <;> omega)) | (with_reducible refine spl (And.intro ?_ ?_) <;> intro _) | (refine CL.clo (hv) ?_) | (refine CM.clo (hv) ?_) | (refine CD.clo (hv) ?_)) <;> ((try simp (implicitDefEqProofs := false)); (try simp (implicitDefEqProofs := false) (disch := first | assumption | (try simp only [lens]); omega -splitDisjunctions))))))
theorem Valid1_no (l : List (ByteArray × Bool)) (f : Fm) (hf : Pl f) (ns : List ByteArray) (hn : ns.length ≤ 1000) (h : tv (lkB l) f = false) : CallOK Try.prog 84 [.imap (entsB l), .ptr 0 0 0, .ptr 1 0 0, .ptr 2 0 0, .ptr 3 0 0]
    [.rows 3 [frm f], .rows 1 [[.bool true]], .rows 1 [[.list (ns.map strRow)]], .rows 1 [[.nilsl]]] (.bool false)
    [.rows 3 [frm f], .rows 1 [[.bool false]], .rows 1 [[.list (ns.map strRow)]], .rows 1 [[.sl 4 0 (ns.filter (lkB l)).length]], .rows 1 ((ns.filter (lkB l)).map strRow)] := by
  have hv := value_truth l f hf
  rw [h] at hv
  refine og84 ?_
  (((try simp (implicitDefEqProofs := false)); (try simp (implicitDefEqProofs := false) (disch := first | assumption | (try simp only [lens]); omega -splitDisjunctions))); all_goals try (repeat' ((first | ((with_reducible first | refine And.intro ?_ ?_ | refine Exists.intro ?_ ?_); first | omega | (simp <;> omega)) | (with_reducible refine spl (And.intro ?_ ?_) <;> intro _) | (refine CL.clo (hv) ?_) | (refine CM.clo (hv) ?_) | (refine CD.clo (hv) ?_)) <;> ((try simp (implicitDefEqProofs := false)); (try simp (implicitDefEqProofs := false) (disch := first | assumption | (try simp only [lens]); omega -splitDisjunctions))))))
  refine W_of fun Q hQ => ?_
  have main : ∀ r i, i + r = ns.length → Q [(0, .imap (entsB l)), (4, .ptr 3 0 0), (13, .list (ns.map strRow)), (14, .int .i64 (ns.length : Int)), (15, .int .i64 (i : Int))]
      [.rows 3 [frm f], .rows 1 [[.bool false]], .rows 1 [[.list (ns.map strRow)]], .rows 1 [[.sl 4 0 ((ns.take i).filter (lkB l)).length]], .rows 1 (((ns.take i).filter (lkB l)).map strRow)] := by
    intro r
    induction r with
    | zero =>
      intro i hi
      rw [List.take_of_length_le (by omega)]
      generalize ns.filter (lkB l) = c at *
      apply hQ
      clear hQ hv
      (((try simp (implicitDefEqProofs := false)); (try simp (implicitDefEqProofs := false) (disch := first | assumption | (try simp only [lens]); omega -splitDisjunctions))); all_goals try (repeat' ((first | ((with_reducible first | refine And.intro ?_ ?_ | refine Exists.intro ?_ ?_); first | omega | (simp <;> omega)) | (with_reducible refine spl (And.intro ?_ ?_) <;> intro _)) <;> ((try simp (implicitDefEqProofs := false)); (try simp (implicitDefEqProofs := false) (disch := first | assumption | (try simp only [lens]); omega -splitDisjunctions))))))
    | succ r ih =>
      intro i hi
      have hin : i < ns.length := by omega
      have ih := ih (i + 1) (by omega)
      have hfl : ((ns.take i).filter (lkB l)).length ≤ i := Nat.le_trans (List.length_filter_le _ _) (by simp; omega)
      rw [take_snoc hin, List.filter_append] at ih
      have hfd := find_ents ns[i] l 0
      rw [show [ns[i]].filter (lkB l) = if lkB l ns[i] = true then [ns[i]] else [] from by rw [List.filter_cons, List.filter_nil]] at ih
      generalize (ns.take i).filter (lkB l) = c at *
      generalize lkB l ns[i] = b at *
      apply hQ
      clear hQ hv
      rcases hfd with ⟨h1, rfl, _⟩ | ⟨j, b', h1, rfl, _⟩
      · simp only [Bool.false_eq_true, if_false, List.append_nil] at ih
        (((try simp (implicitDefEqProofs := false) [hin, h1]); (try simp (implicitDefEqProofs := false) (disch := first | assumption | (try simp only [lens]); omega -splitDisjunctions) [hin, h1])); all_goals try (repeat' ((first | ((with_reducible first | refine And.intro ?_ ?_ | refine Exists.intro ?_ ?_); first | omega | (simp <;> omega)) | (with_reducible refine spl (And.intro ?_ ?_) <;> intro _)) <;> ((try simp (implicitDefEqProofs := false) [hin, h1]); (try simp (implicitDefEqProofs := false) (disch := first | assumption | (try simp only [lens]); omega -splitDisjunctions) [hin, h1])))))
        all_goals first | exact ih | (refine at2 ih ?_ ?_ <;> simp; done) | (exfalso; first | omega | (simp_all; done) | (simp_all; omega))
      · cases b
        · simp only [Bool.false_eq_true, if_false, List.append_nil] at ih
          (((try simp (implicitDefEqProofs := false) [hin, h1]); (try simp (implicitDefEqProofs := false) (disch := first | assumption | (try simp only [lens]); omega -splitDisjunctions) [hin, h1])); all_goals try (repeat' ((first | ((with_reducible first | refine And.intro ?_ ?_ | refine Exists.intro ?_ ?_); first | omega | (simp <;> omega)) | (with_reducible refine spl (And.intro ?_ ?_) <;> intro _)) <;> ((try simp (implicitDefEqProofs := false) [hin, h1]); (try simp (implicitDefEqProofs := false) (disch := first | assumption | (try simp only [lens]); omega -splitDisjunctions) [hin, h1])))))
          all_goals first | exact ih | (refine at2 ih ?_ ?_ <;> simp; done) | (exfalso; first | omega | (simp_all; done) | (simp_all; omega))
        · simp only [if_true] at ih
          (((try simp (implicitDefEqProofs := false) [hin, h1]); (try simp (implicitDefEqProofs := false) (disch := first | assumption | (try simp only [lens]); omega -splitDisjunctions) [hin, h1])); all_goals try (repeat' ((first | ((with_reducible first | refine And.intro ?_ ?_ | refine Exists.intro ?_ ?_); first | omega | (simp <;> omega)) | (with_reducible refine spl (And.intro ?_ ?_) <;> intro _)) <;> ((try simp (implicitDefEqProofs := false) [hin, h1]); (try simp (implicitDefEqProofs := false) (disch := first | assumption | (try simp only [lens]); omega -splitDisjunctions) [hin, h1])))))
          all_goals first | exact ih | (refine at2 ih ?_ ?_ <;> simp; done) | (exfalso; first | omega | (simp_all; done) | (simp_all; omega))
  all_goals first | exact main _ 0 (Nat.zero_add _) | (refine at2 main _ 0 (Nat.zero_add _) ?_ ?_ <;> simp; done) | (exfalso; first | omega | (simp_all; done) | (simp_all; omega))
end Go.Proofs.Ytbmpmmbcfabeeaa
