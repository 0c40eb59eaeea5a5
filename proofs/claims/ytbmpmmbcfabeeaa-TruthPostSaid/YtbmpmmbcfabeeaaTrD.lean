/-
  truth: rows with the closure of Made; rows with the closure of Valid.
-/
import Derived.Test.YtbmpmmbcfabeeaaTrC
namespace Go.Proofs.Ytbmpmmbcfabeeaa
open Go Go.Pv
set_option linter.unusedVariables false
set_option linter.unusedSimpArgs false
set_option maxRecDepth 100000
set_option maxHeartbeats 4000000

def x110 : XC := .seq (.reg [⟨some 4,.assign (.const (.bool false)),none⟩]) (.seq (.drawn 1 [⟨some 5,.fieldAddr 48 (.tmp 1) 1,none⟩,⟨some 6,.load 46 (.tmp 5),none⟩,⟨some 7,.load 24 (.tmp 2),none⟩,⟨some 8,.move (.tmp 0),none⟩,⟨some 9,.call ⟨.value (.func 85),#[.tmp 7,.tmp 8],#[24,116]⟩,none⟩,⟨some 10,.buildSlice 46 1 #[(0,.tmp 9)],none⟩,⟨some 11,.call ⟨.builtin .append,#[.tmp 6,.tmp 10],#[46,46]⟩,none⟩,⟨some 12,.fieldAddr 48 (.tmp 1) 1,none⟩,⟨none,.store 46 (.tmp 12) (.tmp 11),none⟩]) (.seq (.reg [⟨some 4,.assign (.const (.bool true)),none⟩]) (.ret)))
@[simp] theorem x110_s {C : WC} {e : AE} {s : Store} {K : KS} : type_of% (@X_at C e s K _ _ x110.eq_1) := X_at x110.eq_1
def an110 : Ann := ⟨[(1, .mix 6)], [], []⟩
def cx110 (P : Program) (m : Nat) : WC := ⟨P, m, an110⟩
@[simp] theorem cx110_a {P : Program} {m : Nat} : (cx110 P m).P = P ∧ (cx110 P m).m = m ∧ (cx110 P m).A.clsOf 1 = .mix 6 ∧ (cx110 P m).A.frzOf 1 = [] := ⟨rfl, rfl, rfl, rfl⟩
instance {P : Program} {m f : Nat} [h : EnT P f] : EnT (cx110 P m).P f := h
theorem chk110 : ∀ c, Try.f110.body = some c → chkC Try.f110.ntmps an110 c = true := by intro c h; obtain rfl := Option.some.inj h; decide +kernel
theorem og110 {args : List PV} {v : PV} {s s' : Store} (h : X (cx110 Try.prog s.length) x110 (argsA 0 args) s (.fin [.tmp 4] (gcFin s.length v s'))) (hl : args.length ≤ Try.f110.ntmps := by rw [Try.ntmps110]; simp) : CallOK Try.prog 110 args s v s' :=
  callXG (m := 0) (cx110 Try.prog s.length) x110 rfl rfl (by kernel_rfl) Try.func110 rfl rfl hl mixed (chk110 _ rfl) (by rw [Try.results110]; exact h)

theorem Made1_first (t : Int) (l : List (ByteArray × Bool)) (f : Fm) (hf : Pl f) : CallOK Try.prog 110 [.imap (entsB l), .ptr 0 0 0, .ptr 1 0 0] [.rows 2 [[.int .i64 t, .nilsl]], .rows 3 [frm f]] (.bool true)
    [.rows 2 [[.int .i64 t, .sl 2 0 1]], .rows 3 [frm f], .rows 1 [[.bool (tv (lkB l) f)]]] := by
  have hv := value_truth l f hf
  refine og110 ?_
  (((try simp (implicitDefEqProofs := false)); (try simp (implicitDefEqProofs := false) (disch := first | assumption | (try simp only [lens]); omega -splitDisjunctions))); all_goals try (repeat' ((first | ((with_reducible first | refine And.intro ?_ ?_ | refine Exists.intro ?_ ?_); first | omega | (simp <;> omega)) | (with_reducible refine spl (And.intro ?_ ?_) <;> intro _) | (refine CL.clo (hv) ?_) | (refine CM.clo (hv) ?_) | (refine CD.clo (hv) ?_)) <;> ((try simp (implicitDefEqProofs := false)); (try simp (implicitDefEqProofs := false) (disch := first | assumption | (try simp only [lens]); omega -splitDisjunctions))))))
theorem Made1_next (t : Int) (l : List (ByteArray × Bool)) (f : Fm) (hf : Pl f) (bs : List Bool) (hb : bs.length ≤ 100000) : CallOK Try.prog 110 [.imap (entsB l), .ptr 0 0 0, .ptr 1 0 0] [.rows 2 [[.int .i64 t, .sl 2 0 bs.length]], .rows 3 [frm f], .rows 1 (bs.map boolRow)] (.bool true)
    [.rows 2 [[.int .i64 t, .sl 3 0 (bs.length + 1)]], .rows 3 [frm f], .dead, .rows 1 ((bs ++ [tv (lkB l) f]).map boolRow)] := by
  have hv := value_truth l f hf
  refine og110 ?_
  (((try simp (implicitDefEqProofs := false)); (try simp (implicitDefEqProofs := false) (disch := first | assumption | (try simp only [lens]); omega -splitDisjunctions))); all_goals try (repeat' ((first | ((with_reducible first | refine And.intro ?_ ?_ | refine Exists.intro ?_ ?_); first | omega | (simp <;> omega)) | (with_reducible refine spl (And.intro ?_ ?_) <;> intro _) | (refine CL.clo (hv) ?_) | (refine CM.clo (hv) ?_) | (refine CD.clo (hv) ?_)) <;> ((try simp (implicitDefEqProofs := false)); (try simp (implicitDefEqProofs := false) (disch := first | assumption | (try simp only [lens]); omega -splitDisjunctions))))))
  omega
theorem rows_Made (t : Int) (ns : List ByteArray) (hd : ns.Nodup) (hn : ns.length ≤ 10) (f : Fm) (hf : Pl f) : CallOK Try.prog 83 [.list (ns.map strRow), .fn (.func 110) [] [.ptr 0 0 0, .ptr 1 0 0]] [.rows 2 [[.int .i64 t, .nilsl]], .rows 3 [frm f]] (.tuple [])
    [.rows 2 [[.int .i64 t, .sl 2 0 (2 ^ ns.length)]], .rows 3 [frm f], .rows 1 ((rowsB ns f).map boolRow)] := by
  refine og83 ?_
  have hsh := shl_nat ns.length (by omega)
  have hM : 1 ≤ 2 ^ ns.length ∧ 2 ^ ns.length ≤ 1024 := ⟨Nat.one_le_two_pow, Nat.le_trans (Nat.pow_le_pow_right (by decide) hn) (by decide)⟩
  have hbl : (rowsB ns f).length = 2 ^ ns.length := by simp [rowsB]
  have hbg : ∀ k (h : k < (rowsB ns f).length), (rowsB ns f)[k] = tv (lkB (bitsL ns k)) f := fun k h => by simp [rowsB, lk_bits ns hd]
  generalize 2 ^ ns.length = M at *
  generalize rowsB ns f = B at *
  (((try simp (implicitDefEqProofs := false) [hsh]); (try simp (implicitDefEqProofs := false) (disch := first | assumption | (try simp only [lens]); omega -splitDisjunctions) [hsh])); all_goals try (repeat' ((first | ((with_reducible first | refine And.intro ?_ ?_ | refine Exists.intro ?_ ?_); first | omega | (simp <;> omega)) | (with_reducible refine spl (And.intro ?_ ?_) <;> intro _)) <;> ((try simp (implicitDefEqProofs := false) [hsh]); (try simp (implicitDefEqProofs := false) (disch := first | assumption | (try simp only [lens]); omega -splitDisjunctions) [hsh])))))
  refine W_of fun Q hQ => ?_
  have main : ∀ r k, 1 ≤ k → k + r = M → Q [(0, .list (ns.map strRow)), (1, .fn (.func 110) [] [.ptr 0 0 0, .ptr 1 0 0]), (10, .int .i64 (M : Int)), (11, .int .i64 (k : Int))] [.rows 2 [[.int .i64 t, .sl 2 0 k]], .rows 3 [frm f], .rows 1 ((B.take k).map boolRow)] := by
    intro r
    induction r with
    | zero =>
      intro k h1 hk
      obtain rfl : k = M := by omega
      rw [List.take_of_length_le (by omega)]
      apply hQ
      clear hQ
      (((try simp (implicitDefEqProofs := false) [hbl]); (try simp (implicitDefEqProofs := false) (disch := first | assumption | (try simp only [lens]); omega -splitDisjunctions) [hbl])); all_goals try (repeat' ((first | ((with_reducible first | refine And.intro ?_ ?_ | refine Exists.intro ?_ ?_); first | omega | (simp <;> omega)) | (with_reducible refine spl (And.intro ?_ ?_) <;> intro _)) <;> ((try simp (implicitDefEqProofs := false) [hbl]); (try simp (implicitDefEqProofs := false) (disch := first | assumption | (try simp only [lens]); omega -splitDisjunctions) [hbl])))))
    | succ r ih =>
      intro k h1 hk
      have ih := ih (k + 1) (by omega) (by omega)
      have hkM : k < M := by omega
      have hkB : k < B.length := by omega
      have hbk := hbg k hkB
      rw [take_snoc hkB, hbk] at ih
      have hnx := Made1_next t (bitsL ns k) f hf (B.take k) (by simp; omega)
      rw [List.length_take, Nat.min_eq_left (by omega)] at hnx
      generalize B.take k = Bk at *
      apply hQ
      clear hQ
      (((try simp (implicitDefEqProofs := false) [hkM]); (try simp (implicitDefEqProofs := false) (disch := first | assumption | (try simp only [lens]); omega -splitDisjunctions) [hkM])); all_goals try (repeat' ((first | ((with_reducible first | refine And.intro ?_ ?_ | refine Exists.intro ?_ ?_); first | omega | (simp <;> omega)) | (with_reducible refine spl (And.intro ?_ ?_) <;> intro _)) <;> ((try simp (implicitDefEqProofs := false) [hkM]); (try simp (implicitDefEqProofs := false) (disch := first | assumption | (try simp only [lens]); omega -splitDisjunctions) [hkM])))))
      refine W_of fun Q2 hQ2 => ?_
      have main2 : ∀ j i, i + j = ns.length → Q2 [(0, .list (ns.map strRow)), (1, .fn (.func 110) [] [.ptr 0 0 0, .ptr 1 0 0]), (4, .int .i64 (k : Int)), (5, .mapv 3), (10, .int .i64 (M : Int)), (11, .int .i64 (k : Int)), (15, .list (ns.map strRow)), (16, .int .i64 (ns.length : Int)), (17, .int .i64 (i : Int))]
          [.rows 2 [[.int .i64 t, .sl 2 0 k]], .rows 3 [frm f], .rows 1 (Bk.map boolRow), .map (entsB ((bitsL ns k).take i))] := by
        intro j
        induction j with
        | zero =>
          intro i hi
          rw [List.take_of_length_le (by simp; omega)]
          generalize bitsL ns k = es at *
          apply hQ2
          clear hQ2
          (((try simp (implicitDefEqProofs := false)); (try simp (implicitDefEqProofs := false) (disch := first | assumption | (try simp only [lens]); omega -splitDisjunctions))); all_goals try (repeat' ((first | ((with_reducible first | refine And.intro ?_ ?_ | refine Exists.intro ?_ ?_); first | omega | (simp <;> omega)) | (with_reducible refine spl (And.intro ?_ ?_) <;> intro _)) <;> ((try simp (implicitDefEqProofs := false)); (try simp (implicitDefEqProofs := false) (disch := first | assumption | (try simp only [lens]); omega -splitDisjunctions))))))
          refine CL.giv [3] ?_
          (((try simp (implicitDefEqProofs := false)); (try simp (implicitDefEqProofs := false) (disch := first | assumption | (try simp only [lens]); omega -splitDisjunctions))); all_goals try (repeat' ((first | ((with_reducible first | refine And.intro ?_ ?_ | refine Exists.intro ?_ ?_); first | omega | (simp <;> omega)) | (with_reducible refine spl (And.intro ?_ ?_) <;> intro _)) <;> ((try simp (implicitDefEqProofs := false)); (try simp (implicitDefEqProofs := false) (disch := first | assumption | (try simp only [lens]); omega -splitDisjunctions))))))
          refine CL.sub [0, 1, 2] (hc := by simpa using hnx) ?_
          (((try simp (implicitDefEqProofs := false)); (try simp (implicitDefEqProofs := false) (disch := first | assumption | (try simp only [lens]); omega -splitDisjunctions))); all_goals try (repeat' ((first | ((with_reducible first | refine And.intro ?_ ?_ | refine Exists.intro ?_ ?_); first | omega | (simp <;> omega)) | (with_reducible refine spl (And.intro ?_ ?_) <;> intro _)) <;> ((try simp (implicitDefEqProofs := false)); (try simp (implicitDefEqProofs := false) (disch := first | assumption | (try simp only [lens]); omega -splitDisjunctions))))))
          all_goals first | exact ih | (refine at2 ih ?_ ?_ <;> simp; done) | (exfalso; first | omega | (simp_all; done) | (simp_all; omega))
        | succ j ih2 =>
          intro i hi
          have hin : i < ns.length := by omega
          have ih2 := ih2 (i + 1) (by omega)
          rw [bits_step k i hin] at ih2
          have hnw := bits_new hd k i hin
          have hhb := has_bits k i (by omega)
          generalize (bitsL ns k).take i = es at *
          generalize k.testBit i = b at *
          apply hQ2
          clear hQ2
          cases b
          · (((try simp (implicitDefEqProofs := false) [hin, hnw, hhb]); (try simp (implicitDefEqProofs := false) (disch := first | assumption | (try simp only [lens]); omega -splitDisjunctions) [hin, hnw, hhb])); all_goals try (repeat' ((first | ((with_reducible first | refine And.intro ?_ ?_ | refine Exists.intro ?_ ?_); first | omega | (simp <;> omega)) | (with_reducible refine spl (And.intro ?_ ?_) <;> intro _)) <;> ((try simp (implicitDefEqProofs := false) [hin, hnw, hhb]); (try simp (implicitDefEqProofs := false) (disch := first | assumption | (try simp only [lens]); omega -splitDisjunctions) [hin, hnw, hhb])))))
            all_goals first | exact ih2 | (refine at2 ih2 ?_ ?_ <;> simp; done) | (exfalso; first | omega | (simp_all; done) | (simp_all; omega))
          · (((try simp (implicitDefEqProofs := false) [hin, hnw, hhb]); (try simp (implicitDefEqProofs := false) (disch := first | assumption | (try simp only [lens]); omega -splitDisjunctions) [hin, hnw, hhb])); all_goals try (repeat' ((first | ((with_reducible first | refine And.intro ?_ ?_ | refine Exists.intro ?_ ?_); first | omega | (simp <;> omega)) | (with_reducible refine spl (And.intro ?_ ?_) <;> intro _)) <;> ((try simp (implicitDefEqProofs := false) [hin, hnw, hhb]); (try simp (implicitDefEqProofs := false) (disch := first | assumption | (try simp only [lens]); omega -splitDisjunctions) [hin, hnw, hhb])))))
            all_goals first | exact ih2 | (refine at2 ih2 ?_ ?_ <;> simp; done) | (exfalso; first | omega | (simp_all; done) | (simp_all; omega))
      all_goals first | exact main2 _ 0 (Nat.zero_add _) | (refine at2 main2 _ 0 (Nat.zero_add _) ?_ ?_ <;> simp; done) | (exfalso; first | omega | (simp_all; done) | (simp_all; omega))
  have m1 := main (M - 1) 1 (by omega) (by omega)
  have hB0 : 0 < B.length := by omega
  have hb0 := hbg 0 hB0
  have hM0 : 0 < M := by omega
  rw [show B.take 1 = [B[0]] from by rw [take_snoc hB0]; simp, hb0] at m1
  clear main
  have hfs := Made1_first t (bitsL ns 0) f hf
  apply hQ
  clear hQ
  (((try simp (implicitDefEqProofs := false) [hM0]); (try simp (implicitDefEqProofs := false) (disch := first | assumption | (try simp only [lens]); omega -splitDisjunctions) [hM0])); all_goals try (repeat' ((first | ((with_reducible first | refine And.intro ?_ ?_ | refine Exists.intro ?_ ?_); first | omega | (simp <;> omega)) | (with_reducible refine spl (And.intro ?_ ?_) <;> intro _)) <;> ((try simp (implicitDefEqProofs := false) [hM0]); (try simp (implicitDefEqProofs := false) (disch := first | assumption | (try simp only [lens]); omega -splitDisjunctions) [hM0])))))
  refine W_of fun Q2 hQ2 => ?_
  have main2 : ∀ j i, i + j = ns.length → Q2 [(0, .list (ns.map strRow)), (1, .fn (.func 110) [] [.ptr 0 0 0, .ptr 1 0 0]), (4, .int .i64 0), (5, .mapv 2), (10, .int .i64 (M : Int)), (11, .int .i64 0), (15, .list (ns.map strRow)), (16, .int .i64 (ns.length : Int)), (17, .int .i64 (i : Int))]
      [.rows 2 [[.int .i64 t, .nilsl]], .rows 3 [frm f], .map (entsB ((bitsL ns 0).take i))] := by
    intro j
    induction j with
    | zero =>
      intro i hi
      rw [List.take_of_length_le (by simp; omega)]
      generalize bitsL ns 0 = es at *
      apply hQ2
      clear hQ2
      (((try simp (implicitDefEqProofs := false)); (try simp (implicitDefEqProofs := false) (disch := first | assumption | (try simp only [lens]); omega -splitDisjunctions))); all_goals try (repeat' ((first | ((with_reducible first | refine And.intro ?_ ?_ | refine Exists.intro ?_ ?_); first | omega | (simp <;> omega)) | (with_reducible refine spl (And.intro ?_ ?_) <;> intro _)) <;> ((try simp (implicitDefEqProofs := false)); (try simp (implicitDefEqProofs := false) (disch := first | assumption | (try simp only [lens]); omega -splitDisjunctions))))))
      refine CL.giv [2] ?_
      (((try simp (implicitDefEqProofs := false)); (try simp (implicitDefEqProofs := false) (disch := first | assumption | (try simp only [lens]); omega -splitDisjunctions))); all_goals try (repeat' ((first | ((with_reducible first | refine And.intro ?_ ?_ | refine Exists.intro ?_ ?_); first | omega | (simp <;> omega)) | (with_reducible refine spl (And.intro ?_ ?_) <;> intro _)) <;> ((try simp (implicitDefEqProofs := false)); (try simp (implicitDefEqProofs := false) (disch := first | assumption | (try simp only [lens]); omega -splitDisjunctions))))))
      refine CL.sub [0, 1] (hc := by simpa using hfs) ?_
      (((try simp (implicitDefEqProofs := false)); (try simp (implicitDefEqProofs := false) (disch := first | assumption | (try simp only [lens]); omega -splitDisjunctions))); all_goals try (repeat' ((first | ((with_reducible first | refine And.intro ?_ ?_ | refine Exists.intro ?_ ?_); first | omega | (simp <;> omega)) | (with_reducible refine spl (And.intro ?_ ?_) <;> intro _)) <;> ((try simp (implicitDefEqProofs := false)); (try simp (implicitDefEqProofs := false) (disch := first | assumption | (try simp only [lens]); omega -splitDisjunctions))))))
      all_goals first | exact m1 | (refine at2 m1 ?_ ?_ <;> simp; done) | (exfalso; first | omega | (simp_all; done) | (simp_all; omega))
    | succ j ih2 =>
      intro i hi
      have hin : i < ns.length := by omega
      have ih2 := ih2 (i + 1) (by omega)
      rw [bits_step 0 i hin] at ih2
      have hnw := bits_new hd 0 i hin
      have hhb := has_bits 0 i (by omega)
      generalize (bitsL ns 0).take i = es at *
      generalize (0 : Nat).testBit i = b at *
      apply hQ2
      clear hQ2
      rw [Int.natCast_zero] at hhb
      cases b
      · (((try simp (implicitDefEqProofs := false) [hin, hnw, hhb]); (try simp (implicitDefEqProofs := false) (disch := first | assumption | (try simp only [lens]); omega -splitDisjunctions) [hin, hnw, hhb])); all_goals try (repeat' ((first | ((with_reducible first | refine And.intro ?_ ?_ | refine Exists.intro ?_ ?_); first | omega | (simp <;> omega)) | (with_reducible refine spl (And.intro ?_ ?_) <;> intro _)) <;> ((try simp (implicitDefEqProofs := false) [hin, hnw, hhb]); (try simp (implicitDefEqProofs := false) (disch := first | assumption | (try simp only [lens]); omega -splitDisjunctions) [hin, hnw, hhb])))))
        all_goals first | exact ih2 | (refine at2 ih2 ?_ ?_ <;> simp; done) | (exfalso; first | omega | (simp_all; done) | (simp_all; omega))
      · (((try simp (implicitDefEqProofs := false) [hin, hnw, hhb]); (try simp (implicitDefEqProofs := false) (disch := first | assumption | (try simp only [lens]); omega -splitDisjunctions) [hin, hnw, hhb])); all_goals try (repeat' ((first | ((with_reducible first | refine And.intro ?_ ?_ | refine Exists.intro ?_ ?_); first | omega | (simp <;> omega)) | (with_reducible refine spl (And.intro ?_ ?_) <;> intro _)) <;> ((try simp (implicitDefEqProofs := false) [hin, hnw, hhb]); (try simp (implicitDefEqProofs := false) (disch := first | assumption | (try simp only [lens]); omega -splitDisjunctions) [hin, hnw, hhb])))))
        all_goals first | exact ih2 | (refine at2 ih2 ?_ ?_ <;> simp; done) | (exfalso; first | omega | (simp_all; done) | (simp_all; omega))
  all_goals first | exact main2 _ 0 (Nat.zero_add _) | (refine at2 main2 _ 0 (Nat.zero_add _) ?_ ?_ <;> simp; done) | (exfalso; first | omega | (simp_all; done) | (simp_all; omega))

theorem filter_bits : ∀ (ns : List ByteArray), ns.Nodup → ∀ k, ns.filter (lkB (bitsL ns k)) = rowL ns k := by
  intro ns hd k
  rw [lk_bits ns hd k]
  induction ns generalizing k with
  | nil => rfl
  | cons a r ih =>
    rw [List.nodup_cons] at hd
    rw [rowL, List.filter_cons]
    have hr : ∀ l : List ByteArray, a ∉ rowL r (k / 2) := fun _ g => hd.1 (rowL_sub _ _ _ g)
    have e2 : r.filter (fun x => memB x (if k % 2 = 1 then a :: rowL r (k / 2) else rowL r (k / 2))) = rowL r (k / 2) := by
      rw [← ih hd.2 (k / 2)]
      refine List.filter_congr fun x hx => ?_
      have hxa : x ≠ a := by rintro rfl; exact hd.1 hx
      rw [ih hd.2 (k / 2)]
      split <;> simp [memB, hxa]
    by_cases h2 : k % 2 = 1
    · simp only [h2, if_true] at e2 ⊢
      rw [if_pos (by simp [memB]), e2]
    · simp only [h2, if_false] at e2 ⊢
      rw [if_neg (by rw [memB_iff]; exact hr []), e2]
/-- what rows leaves behind, when k is the first row that is not true -/
def valS (f : Fm) (ns : List ByteArray) : Option Nat → Store
  | none => [.rows 3 [frm f], .rows 1 [[.bool true]], .rows 1 [[.list (ns.map strRow)]], .rows 1 [[.nilsl]]]
  | some k => [.rows 3 [frm f], .rows 1 [[.bool false]], .rows 1 [[.list (ns.map strRow)]], .rows 1 [[.sl 4 0 (rowL ns k).length]], .rows 1 ((rowL ns k).map strRow)]
def fstF (l : List Bool) : Option Nat := l.findIdx? (fun b => !b)
theorem rows_Valid (ns : List ByteArray) (hd : ns.Nodup) (hn : ns.length ≤ 10) (f : Fm) (hf : Pl f) : CallOK Try.prog 83 [.list (ns.map strRow), .fn (.func 84) [] [.ptr 0 0 0, .ptr 1 0 0, .ptr 2 0 0, .ptr 3 0 0]] (valS f ns none) (.tuple [])
    (valS f ns (fstF (rowsB ns f))) := by
  unfold valS
  refine og83 ?_
  have hsh := shl_nat ns.length (by omega)
  have hM : 1 ≤ 2 ^ ns.length ∧ 2 ^ ns.length ≤ 1024 := ⟨Nat.one_le_two_pow, Nat.le_trans (Nat.pow_le_pow_right (by decide) hn) (by decide)⟩
  have hbl : (rowsB ns f).length = 2 ^ ns.length := by simp [rowsB]
  have hbg : ∀ k (h : k < (rowsB ns f).length), (rowsB ns f)[k] = tv (lkB (bitsL ns k)) f := fun k h => by simp [rowsB, lk_bits ns hd]
  generalize 2 ^ ns.length = M at *
  generalize hR : fstF (rowsB ns f) = R at *
  unfold fstF at hR
  generalize rowsB ns f = B at *
  (((try simp (implicitDefEqProofs := false) [hsh]); (try simp (implicitDefEqProofs := false) (disch := first | assumption | (try simp only [lens]); omega -splitDisjunctions) [hsh])); all_goals try (repeat' ((first | ((with_reducible first | refine And.intro ?_ ?_ | refine Exists.intro ?_ ?_); first | omega | (simp <;> omega)) | (with_reducible refine spl (And.intro ?_ ?_) <;> intro _)) <;> ((try simp (implicitDefEqProofs := false) [hsh]); (try simp (implicitDefEqProofs := false) (disch := first | assumption | (try simp only [lens]); omega -splitDisjunctions) [hsh])))))
  refine W_of fun Q hQ => ?_
  have main : ∀ r k, k + r = M → (∀ j (h : j < B.length), j < k → B[j] = true) → Q [(0, .list (ns.map strRow)), (1, .fn (.func 84) [] [.ptr 0 0 0, .ptr 1 0 0, .ptr 2 0 0, .ptr 3 0 0]), (10, .int .i64 (M : Int)), (11, .int .i64 (k : Int))] [.rows 3 [frm f], .rows 1 [[.bool true]], .rows 1 [[.list (ns.map strRow)]], .rows 1 [[.nilsl]]] := by
    intro r
    induction r with
    | zero =>
      intro k hk hb
      obtain rfl : k = M := by omega
      obtain rfl : R = none := by
        rw [← hR, List.findIdx?_eq_none_iff]
        intro x hx
        obtain ⟨j, hj, rfl⟩ := List.mem_iff_getElem.1 hx
        rw [hb j hj (by omega)]; rfl
      apply hQ
      clear hQ
      (((try simp (implicitDefEqProofs := false) [hbl]); (try simp (implicitDefEqProofs := false) (disch := first | assumption | (try simp only [lens]); omega -splitDisjunctions) [hbl])); all_goals try (repeat' ((first | ((with_reducible first | refine And.intro ?_ ?_ | refine Exists.intro ?_ ?_); first | omega | (simp <;> omega)) | (with_reducible refine spl (And.intro ?_ ?_) <;> intro _)) <;> ((try simp (implicitDefEqProofs := false) [hbl]); (try simp (implicitDefEqProofs := false) (disch := first | assumption | (try simp only [lens]); omega -splitDisjunctions) [hbl])))))
    | succ r ih =>
      intro k hk hb
      have ih := ih (k + 1) (by omega)
      have hkM : k < M := by omega
      have hkB : k < B.length := by omega
      have hbk := hbg k hkB
      have hyes := Valid1_yes (bitsL ns k) f hf ns
      have hno := Valid1_no (bitsL ns k) f hf ns (by omega)
      rw [filter_bits ns hd k] at hno
      apply hQ
      clear hQ
      (((try simp (implicitDefEqProofs := false) [hkM]); (try simp (implicitDefEqProofs := false) (disch := first | assumption | (try simp only [lens]); omega -splitDisjunctions) [hkM])); all_goals try (repeat' ((first | ((with_reducible first | refine And.intro ?_ ?_ | refine Exists.intro ?_ ?_); first | omega | (simp <;> omega)) | (with_reducible refine spl (And.intro ?_ ?_) <;> intro _)) <;> ((try simp (implicitDefEqProofs := false) [hkM]); (try simp (implicitDefEqProofs := false) (disch := first | assumption | (try simp only [lens]); omega -splitDisjunctions) [hkM])))))
      refine W_of fun Q2 hQ2 => ?_
      have main2 : ∀ j i, i + j = ns.length → Q2 [(0, .list (ns.map strRow)), (1, .fn (.func 84) [] [.ptr 0 0 0, .ptr 1 0 0, .ptr 2 0 0, .ptr 3 0 0]), (4, .int .i64 (k : Int)), (5, .mapv 4), (10, .int .i64 (M : Int)), (11, .int .i64 (k : Int)), (15, .list (ns.map strRow)), (16, .int .i64 (ns.length : Int)), (17, .int .i64 (i : Int))]
          [.rows 3 [frm f], .rows 1 [[.bool true]], .rows 1 [[.list (ns.map strRow)]], .rows 1 [[.nilsl]], .map (entsB ((bitsL ns k).take i))] := by
        intro j
        induction j with
        | zero =>
          intro i hi
          rw [List.take_of_length_le (by simp; omega)]
          apply hQ2
          clear hQ2
          cases ht : B[k] with
          | true =>
            rw [ht] at hbk
            have hyes := hyes hbk.symm
            have ih := ih (fun j h hj => by
              by_cases e : j = k
              · subst e; exact ht
              · exact hb j h (by omega))
            clear hno
            generalize bitsL ns k = es at *
            (((try simp (implicitDefEqProofs := false)); (try simp (implicitDefEqProofs := false) (disch := first | assumption | (try simp only [lens]); omega -splitDisjunctions))); all_goals try (repeat' ((first | ((with_reducible first | refine And.intro ?_ ?_ | refine Exists.intro ?_ ?_); first | omega | (simp <;> omega)) | (with_reducible refine spl (And.intro ?_ ?_) <;> intro _)) <;> ((try simp (implicitDefEqProofs := false)); (try simp (implicitDefEqProofs := false) (disch := first | assumption | (try simp only [lens]); omega -splitDisjunctions))))))
            refine CL.giv [4] ?_
            (((try simp (implicitDefEqProofs := false)); (try simp (implicitDefEqProofs := false) (disch := first | assumption | (try simp only [lens]); omega -splitDisjunctions))); all_goals try (repeat' ((first | ((with_reducible first | refine And.intro ?_ ?_ | refine Exists.intro ?_ ?_); first | omega | (simp <;> omega)) | (with_reducible refine spl (And.intro ?_ ?_) <;> intro _)) <;> ((try simp (implicitDefEqProofs := false)); (try simp (implicitDefEqProofs := false) (disch := first | assumption | (try simp only [lens]); omega -splitDisjunctions))))))
            refine CL.sub [0, 1, 2, 3] (hc := by simpa using hyes) ?_
            (((try simp (implicitDefEqProofs := false)); (try simp (implicitDefEqProofs := false) (disch := first | assumption | (try simp only [lens]); omega -splitDisjunctions))); all_goals try (repeat' ((first | ((with_reducible first | refine And.intro ?_ ?_ | refine Exists.intro ?_ ?_); first | omega | (simp <;> omega)) | (with_reducible refine spl (And.intro ?_ ?_) <;> intro _)) <;> ((try simp (implicitDefEqProofs := false)); (try simp (implicitDefEqProofs := false) (disch := first | assumption | (try simp only [lens]); omega -splitDisjunctions))))))
            all_goals first | exact ih | (refine at2 ih ?_ ?_ <;> simp; done) | (exfalso; first | omega | (simp_all; done) | (simp_all; omega))
          | false =>
            rw [ht] at hbk
            have hno := hno hbk.symm
            obtain rfl : R = some k := by
              rw [← hR, List.findIdx?_eq_some_iff_getElem]
              exact ⟨hkB, by rw [ht]; rfl, fun j hj => by rw [hb j (by omega) hj]; decide⟩
            clear hyes ih hbg hR
            dsimp only
            generalize rowL ns k = c at *
            generalize bitsL ns k = es at *
            (((try simp (implicitDefEqProofs := false)); (try simp (implicitDefEqProofs := false) (disch := first | assumption | (try simp only [lens]); omega -splitDisjunctions))); all_goals try (repeat' ((first | ((with_reducible first | refine And.intro ?_ ?_ | refine Exists.intro ?_ ?_); first | omega | (simp <;> omega)) | (with_reducible refine spl (And.intro ?_ ?_) <;> intro _)) <;> ((try simp (implicitDefEqProofs := false)); (try simp (implicitDefEqProofs := false) (disch := first | assumption | (try simp only [lens]); omega -splitDisjunctions))))))
            refine CL.giv [4] ?_
            (((try simp (implicitDefEqProofs := false)); (try simp (implicitDefEqProofs := false) (disch := first | assumption | (try simp only [lens]); omega -splitDisjunctions))); all_goals try (repeat' ((first | ((with_reducible first | refine And.intro ?_ ?_ | refine Exists.intro ?_ ?_); first | omega | (simp <;> omega)) | (with_reducible refine spl (And.intro ?_ ?_) <;> intro _)) <;> ((try simp (implicitDefEqProofs := false)); (try simp (implicitDefEqProofs := false) (disch := first | assumption | (try simp only [lens]); omega -splitDisjunctions))))))
            refine CL.sub [0, 1, 2, 3] (hc := by simpa using hno) ?_
            (((try simp (implicitDefEqProofs := false)); (try simp (implicitDefEqProofs := false) (disch := first | assumption | (try simp only [lens]); omega -splitDisjunctions))); all_goals try (repeat' ((first | ((with_reducible first | refine And.intro ?_ ?_ | refine Exists.intro ?_ ?_); first | omega | (simp <;> omega)) | (with_reducible refine spl (And.intro ?_ ?_) <;> intro _)) <;> ((try simp (implicitDefEqProofs := false)); (try simp (implicitDefEqProofs := false) (disch := first | assumption | (try simp only [lens]); omega -splitDisjunctions))))))
        | succ j ih2 =>
          intro i hi
          have hin : i < ns.length := by omega
          have ih2 := ih2 (i + 1) (by omega)
          rw [bits_step k i hin] at ih2
          have hnw := bits_new hd k i hin
          have hhb := has_bits k i (by omega)
          clear hyes hno hbk
          generalize (bitsL ns k).take i = es at *
          generalize k.testBit i = b at *
          apply hQ2
          clear hQ2
          cases b
          · (((try simp (implicitDefEqProofs := false) [hin, hnw, hhb]); (try simp (implicitDefEqProofs := false) (disch := first | assumption | (try simp only [lens]); omega -splitDisjunctions) [hin, hnw, hhb])); all_goals try (repeat' ((first | ((with_reducible first | refine And.intro ?_ ?_ | refine Exists.intro ?_ ?_); first | omega | (simp <;> omega)) | (with_reducible refine spl (And.intro ?_ ?_) <;> intro _)) <;> ((try simp (implicitDefEqProofs := false) [hin, hnw, hhb]); (try simp (implicitDefEqProofs := false) (disch := first | assumption | (try simp only [lens]); omega -splitDisjunctions) [hin, hnw, hhb])))))
            all_goals first | exact ih2 | (refine at2 ih2 ?_ ?_ <;> simp; done) | (exfalso; first | omega | (simp_all; done) | (simp_all; omega))
          · (((try simp (implicitDefEqProofs := false) [hin, hnw, hhb]); (try simp (implicitDefEqProofs := false) (disch := first | assumption | (try simp only [lens]); omega -splitDisjunctions) [hin, hnw, hhb])); all_goals try (repeat' ((first | ((with_reducible first | refine And.intro ?_ ?_ | refine Exists.intro ?_ ?_); first | omega | (simp <;> omega)) | (with_reducible refine spl (And.intro ?_ ?_) <;> intro _)) <;> ((try simp (implicitDefEqProofs := false) [hin, hnw, hhb]); (try simp (implicitDefEqProofs := false) (disch := first | assumption | (try simp only [lens]); omega -splitDisjunctions) [hin, hnw, hhb])))))
            all_goals first | exact ih2 | (refine at2 ih2 ?_ ?_ <;> simp; done) | (exfalso; first | omega | (simp_all; done) | (simp_all; omega))
      all_goals first | exact main2 _ 0 (Nat.zero_add _) | (refine at2 main2 _ 0 (Nat.zero_add _) ?_ ?_ <;> simp; done) | (exfalso; first | omega | (simp_all; done) | (simp_all; omega))
  all_goals first | exact main _ 0 (Nat.zero_add _) (fun _ _ h => absurd h (Nat.not_lt_zero _)) | (refine at2 main _ 0 (Nat.zero_add _) (fun _ _ h => absurd h (Nat.not_lt_zero _)) ?_ ?_ <;> simp; done) | (exfalso; first | omega | (simp_all; done) | (simp_all; omega))
end Go.Proofs.Ytbmpmmbcfabeeaa
