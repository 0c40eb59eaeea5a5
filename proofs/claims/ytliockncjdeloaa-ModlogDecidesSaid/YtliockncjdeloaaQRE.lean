/-
  sequentref: Same, Has, PartsIn; law10: own, noModel.
-/
import Derived.Test.YtliockncjdeloaaQRF
import Derived.Test.YtliockncjdeloaaPvQt
namespace Go.Proofs.Ytliockncjdeloaa
open Go Go.Pv
set_option linter.unusedVariables false
set_option linter.unusedSimpArgs false
set_option maxRecDepth 100000
set_option maxHeartbeats 4000000

def x9_T1 : XC := .seq (.reg [⟨some 28,.load 24 (.tmp 3),none⟩,⟨none,.store 24 (.tmp 2) (.tmp 28),none⟩]) (.ret)
def x9_L0 : XC := .seq (.seq (.reg [⟨some 10,.move (.tmp 4),none⟩,⟨some 11,.fieldAddr 24 (.tmp 1) 2,none⟩,⟨some 12,.load 22 (.tmp 11),none⟩,⟨some 13,.call ⟨.builtin .len,#[.tmp 12],#[22]⟩,none⟩,⟨some 14,.binOp .lss 3 (.tmp 10) (.tmp 13) 3,none⟩]) (.cond (.tmp 14) (.skip) (.exit 0))) (.seq (.block 1 (.drawn 5 [⟨some 17,.fieldAddr 24 (.tmp 3) 2,none⟩,⟨some 18,.load 22 (.tmp 17),none⟩,⟨some 19,.fieldAddr 24 (.tmp 1) 2,none⟩,⟨some 20,.load 22 (.tmp 19),none⟩,⟨some 21,.move (.tmp 4),none⟩,⟨some 22,.indexAddr 22 (.tmp 20) (.tmp 21),none⟩,⟨some 23,.load 24 (.tmp 22),none⟩,⟨some 24,.call ⟨.value (.func 9),#[.tmp 23],#[24]⟩,none⟩,⟨some 25,.buildSlice 22 1 #[(0,.tmp 24)],none⟩,⟨some 26,.call ⟨.builtin .append,#[.tmp 18,.tmp 25],#[22,22]⟩,none⟩,⟨some 27,.fieldAddr 24 (.tmp 3) 2,none⟩,⟨none,.store 22 (.tmp 27) (.tmp 26),none⟩])) (.reg [⟨some 15,.move (.tmp 4),none⟩,⟨some 16,.binOp .add 3 (.tmp 15) (.const (.int .i64 1)) 3,none⟩,⟨some 4,.assign (.tmp 16),none⟩]))
def x9 : XC := .seq (.reg [⟨some 1,.box 24 (.tmp 0),none⟩,⟨some 2,.alloc 24,none⟩]) (.seq (.reg [⟨some 5,.fieldAddr 24 (.tmp 1) 0,none⟩,⟨some 6,.load 3 (.tmp 5),none⟩,⟨some 7,.fieldAddr 24 (.tmp 1) 1,none⟩,⟨some 8,.load 9 (.tmp 7),none⟩,⟨some 9,.build 24 #[(0,.tmp 6),(1,.tmp 8)],none⟩,⟨some 3,.alloc 24,none⟩,⟨none,.store 24 (.tmp 3) (.tmp 9),none⟩]) (.seq (.seq (.reg [⟨some 4,.assign (.const (.int .i64 0)),none⟩]) (.bloop 0 x9_L0)) (x9_T1)))
@[simp] theorem x9_s {C : WC} {e : AE} {s : Store} {K : KS} : type_of% (@X_at C e s K _ _ x9_T1.eq_1) ∧ type_of% (@X_at C e s K _ _ x9_L0.eq_1) ∧ type_of% (@X_at C e s K _ _ x9.eq_1) := ⟨X_at x9_T1.eq_1, X_at x9_L0.eq_1, X_at x9.eq_1⟩
def an9 : Ann := ⟨[(5, .mix 9)], [(0, [(3, some 2, 3)], [1, 2, 3, 4], [2, 3])], []⟩
def cx9 (P : Program) (m : Nat) : WC := ⟨P, m, an9⟩
@[simp] theorem cx9_a {P : Program} {m : Nat} : (cx9 P m).P = P ∧ (cx9 P m).m = m ∧ (cx9 P m).A.clsOf 5 = .mix 9 ∧ (cx9 P m).A.frzOf 5 = [] ∧ (cx9 P m).A.loopOf 0 = ([(3, some 2, 3)], [1, 2, 3, 4], [2, 3]) := ⟨rfl, rfl, rfl, rfl, rfl⟩
instance {P : Program} {m f : Nat} [h : EnT P f] : EnT (cx9 P m).P f := h
theorem chk9 : ∀ c, Try.f9.body = some c → chkC Try.f9.ntmps an9 c = true := by intro c h; obtain rfl := Option.some.inj h; decide +kernel
theorem os9 {args : List PV} {v : PV} (h : X (cx9 Try.prog 0) x9 (argsA 0 args) [] (.fin [.cell 2 24] fun v1 s1 => softV (deref s1 6 v1) = v)) (hl : args.length ≤ Try.f9.ntmps := by rw [Try.ntmps9]; simp) : CallOK Try.prog 9 args [] v [] :=
  callXF (m := 0) (cx9 Try.prog 0) x9 rfl rfl (by kernel_rfl) Try.func9 rfl rfl hl mixed (chk9 _ rfl) (by rw [Try.results9]; exact h)

theorem vast_kids {f : Fm} {d : Int} (h : vastB f d = false) : f.kids.length ≤ 25000 ∧ ∀ g ∈ f.kids, vastB g (d + 1) = false := by
  rw [vastB_eq] at h
  simp only [Bool.or_eq_false_iff, decide_eq_false_iff_not] at h
  refine ⟨by omega, ?_⟩
  have h2 := h.2.2
  generalize f.kids = l at h2
  induction l with
  | nil => intro g hg; cases hg
  | cons a r ih =>
    intro g hg
    rw [vastsB, Bool.or_eq_false_iff] at h2
    cases hg with
    | head => exact h2.1
    | tail _ hg => exact ih h2.2 g hg
theorem own_law (f : Fm) : ∀ d, vastB f d = false → CallOK Try.prog 9 [.agg (frm f)] [] (.agg (frm f)) [] := by
  induction f using Fm.ind with
  | h f ih =>
    intro d hv
    obtain ⟨hk, hv⟩ := vast_kids hv
    refine os9 ?_
    (((try simp (implicitDefEqProofs := false)); (try simp (implicitDefEqProofs := false) (disch := first | assumption | (try simp only [lens]); omega -splitDisjunctions))); all_goals try (repeat' ((first | ((with_reducible first | refine And.intro ?_ ?_ | refine Exists.intro ?_ ?_); first | omega | (simp <;> omega)) | (with_reducible refine spl (And.intro ?_ ?_) <;> intro _)) <;> ((try simp (implicitDefEqProofs := false)); (try simp (implicitDefEqProofs := false) (disch := first | assumption | (try simp only [lens]); omega -splitDisjunctions))))))
    refine W_of fun Q hQ => ?_
    have main : ∀ n i, i + n = f.kids.length → Q [(1, .ptr 0 0 0), (2, .ptr 1 0 0), (3, .ptr 2 0 0), (4, .int .i64 (i : Int))]
        [.rows 3 [frm f], .rows 3 [[.int .i64 0, .str ⟨#[]⟩, .nilsl]], .rows 3 [[.int .i64 f.kind, .str f.name, .sl 3 0 i]], .rows 3 ((f.kids.take i).map frm)] := by
      intro n
      induction n with
      | zero =>
        intro i hi
        apply hQ
        (((try simp (implicitDefEqProofs := false)); (try simp (implicitDefEqProofs := false) (disch := first | assumption | (try simp only [lens]); omega -splitDisjunctions))); all_goals try (repeat' ((first | ((with_reducible first | refine And.intro ?_ ?_ | refine Exists.intro ?_ ?_); first | omega | (simp <;> omega)) | (with_reducible refine spl (And.intro ?_ ?_) <;> intro _)) <;> ((try simp (implicitDefEqProofs := false)); (try simp (implicitDefEqProofs := false) (disch := first | assumption | (try simp only [lens]); omega -splitDisjunctions))))))
        rw [frm_eq]
        simp [List.take_of_length_le, show f.kids.length ≤ i by omega]
      | succ n ihn =>
        intro i hi
        apply hQ
        (((try simp (implicitDefEqProofs := false)); (try simp (implicitDefEqProofs := false) (disch := first | assumption | (try simp only [lens]); omega -splitDisjunctions))); all_goals try (repeat' ((first | ((with_reducible first | refine And.intro ?_ ?_ | refine Exists.intro ?_ ?_); first | omega | (simp <;> omega)) | (with_reducible refine spl (And.intro ?_ ?_) <;> intro _) | (refine CL.clo (ih _ (List.getElem_mem _) _ (hv _ (List.getElem_mem _))) ?_) | (refine CM.clo (ih _ (List.getElem_mem _) _ (hv _ (List.getElem_mem _))) ?_) | (refine CD.clo (ih _ (List.getElem_mem _) _ (hv _ (List.getElem_mem _))) ?_)) <;> ((try simp (implicitDefEqProofs := false)); (try simp (implicitDefEqProofs := false) (disch := first | assumption | (try simp only [lens]); omega -splitDisjunctions))))))
        refine at2 (ihn (i + 1) (by omega)) ?_ ?_
        · simp
        · simp only [List.map_take]
          rw [take_snoc (l := f.kids.map frm) (i := i) (by simp; omega)]; simp only [List.getElem_map, List.take_take, Nat.min_self]
    refine at2 (main _ 0 (Nat.zero_add _)) ?_ ?_ <;> simp
def x15 : XC := .seq (.reg [⟨some 1,.box 31 (.tmp 0),none⟩,⟨some 2,.assign (.const (.bool false)),none⟩]) (.seq (.reg [⟨some 3,.fieldAddr 31 (.tmp 1) 0,none⟩,⟨some 4,.load 3 (.tmp 3),none⟩,⟨some 5,.binOp .eql 3 (.tmp 4) (.const (.int .i64 0)) 3,none⟩,⟨some 6,.move (.tmp 5),none⟩,⟨some 7,.fieldAddr 31 (.tmp 1) 1,some (some 6,true)⟩,⟨some 8,.load 28 (.tmp 7),some (some 6,true)⟩,⟨some 9,.call ⟨.builtin .len,#[.tmp 8],#[28]⟩,some (some 6,true)⟩,⟨some 10,.binOp .eql 3 (.tmp 9) (.const (.int .i64 0)) 3,some (some 6,true)⟩,⟨some 11,.pick (.tmp 6) (.tmp 10) (.const (.bool false)),none⟩,⟨some 12,.move (.tmp 11),none⟩,⟨some 13,.fieldAddr 31 (.tmp 1) 2,some (some 12,true)⟩,⟨some 14,.load 29 (.tmp 13),some (some 12,true)⟩,⟨some 15,.call ⟨.builtin .len,#[.tmp 14],#[29]⟩,some (some 12,true)⟩,⟨some 16,.binOp .eql 3 (.tmp 15) (.const (.int .i64 0)) 3,some (some 12,true)⟩,⟨some 17,.pick (.tmp 12) (.tmp 16) (.const (.bool false)),none⟩,⟨some 2,.assign (.tmp 17),none⟩]) (.ret))
@[simp] theorem x15_s {C : WC} {e : AE} {s : Store} {K : KS} : type_of% (@X_at C e s K _ _ x15.eq_1) := X_at x15.eq_1
def an15 : Ann := ⟨[], [], []⟩
def cx15 (P : Program) (m : Nat) : WC := ⟨P, m, an15⟩
@[simp] theorem cx15_a {P : Program} {m : Nat} : (cx15 P m).P = P ∧ (cx15 P m).m = m := ⟨rfl, rfl⟩
instance {P : Program} {m f : Nat} [h : EnT P f] : EnT (cx15 P m).P f := h
theorem chk15 : ∀ c, Try.f15.body = some c → chkC Try.f15.ntmps an15 c = true := by intro c h; obtain rfl := Option.some.inj h; decide +kernel
theorem op15 {args : List PV} {v : PV} (h : X (cx15 Try.prog 0) x15 (argsA 0 args) [] (.fin [.tmp 2] fun v1 s1 => deref s1 6 v1 = v)) (hl : args.length ≤ Try.f15.ntmps := by rw [Try.ntmps15]; simp) : CallOK Try.prog 15 args [] v [] :=
  callX (m := 0) (cx15 Try.prog 0) x15 rfl rfl (by kernel_rfl) Try.func15 rfl rfl hl mixed (chk15 _ rfl) (by rw [Try.results15]; exact h)

theorem noModel_law (m : Mdl) : CallOK Try.prog 15 [.agg (mdl m)] [] (.bool (decide (m.n = 0) && decide (m.rel = []) && decide (m.tr.length = 0))) [] := by
  refine op15 ?_
  (((try simp (implicitDefEqProofs := false)); (try simp (implicitDefEqProofs := false) (disch := first | assumption | (try simp only [lens]); omega -splitDisjunctions))); all_goals try (repeat' ((first | ((with_reducible first | refine And.intro ?_ ?_ | refine Exists.intro ?_ ?_); first | omega | (simp <;> omega)) | (with_reducible refine spl (And.intro ?_ ?_) <;> intro _)) <;> ((try simp (implicitDefEqProofs := false)); (try simp (implicitDefEqProofs := false) (disch := first | assumption | (try simp only [lens]); omega -splitDisjunctions))))))
  all_goals simp_all
def x14_L0 : XC := .seq (.seq (.reg [⟨some 27,.move (.tmp 5),none⟩,⟨some 28,.fieldAddr 24 (.tmp 2) 2,none⟩,⟨some 29,.load 22 (.tmp 28),none⟩,⟨some 30,.call ⟨.builtin .len,#[.tmp 29],#[22]⟩,none⟩,⟨some 31,.binOp .lss 3 (.tmp 27) (.tmp 30) 3,none⟩]) (.cond (.tmp 31) (.skip) (.exit 0))) (.seq (.block 1 (.seq (.drawn 6 [⟨some 34,.fieldAddr 24 (.tmp 2) 2,none⟩,⟨some 35,.load 22 (.tmp 34),none⟩,⟨some 36,.move (.tmp 5),none⟩,⟨some 37,.indexAddr 22 (.tmp 35) (.tmp 36),none⟩,⟨some 38,.load 24 (.tmp 37),none⟩,⟨some 39,.fieldAddr 24 (.tmp 3) 2,none⟩,⟨some 40,.load 22 (.tmp 39),none⟩,⟨some 41,.move (.tmp 5),none⟩,⟨some 42,.indexAddr 22 (.tmp 40) (.tmp 41),none⟩,⟨some 43,.load 24 (.tmp 42),none⟩,⟨some 44,.call ⟨.value (.func 14),#[.tmp 38,.tmp 43],#[24,24]⟩,none⟩,⟨some 45,.unOp .not 4 (.tmp 44),none⟩]) (.cond (.tmp 45) (.seq (.reg [⟨some 4,.assign (.const (.bool false)),none⟩]) (.ret)) (.skip)))) (.reg [⟨some 32,.move (.tmp 5),none⟩,⟨some 33,.binOp .add 3 (.tmp 32) (.const (.int .i64 1)) 3,none⟩,⟨some 5,.assign (.tmp 33),none⟩]))
def x14 : XC := .seq (.reg [⟨some 2,.box 24 (.tmp 0),none⟩,⟨some 3,.box 24 (.tmp 1),none⟩,⟨some 4,.assign (.const (.bool false)),none⟩]) (.seq (.seq (.reg [⟨some 6,.fieldAddr 24 (.tmp 2) 0,none⟩,⟨some 7,.load 3 (.tmp 6),none⟩,⟨some 8,.fieldAddr 24 (.tmp 3) 0,none⟩,⟨some 9,.load 3 (.tmp 8),none⟩,⟨some 10,.binOp .neq 3 (.tmp 7) (.tmp 9) 3,none⟩,⟨some 11,.move (.tmp 10),none⟩,⟨some 12,.fieldAddr 24 (.tmp 2) 1,some (some 11,false)⟩,⟨some 13,.load 9 (.tmp 12),some (some 11,false)⟩,⟨some 14,.fieldAddr 24 (.tmp 3) 1,some (some 11,false)⟩,⟨some 15,.load 9 (.tmp 14),some (some 11,false)⟩,⟨some 16,.binOp .neq 9 (.tmp 13) (.tmp 15) 9,some (some 11,false)⟩,⟨some 17,.pick (.tmp 11) (.const (.bool true)) (.tmp 16),none⟩,⟨some 18,.move (.tmp 17),none⟩,⟨some 19,.fieldAddr 24 (.tmp 2) 2,some (some 18,false)⟩,⟨some 20,.load 22 (.tmp 19),some (some 18,false)⟩,⟨some 21,.call ⟨.builtin .len,#[.tmp 20],#[22]⟩,some (some 18,false)⟩,⟨some 22,.fieldAddr 24 (.tmp 3) 2,some (some 18,false)⟩,⟨some 23,.load 22 (.tmp 22),some (some 18,false)⟩,⟨some 24,.call ⟨.builtin .len,#[.tmp 23],#[22]⟩,some (some 18,false)⟩,⟨some 25,.binOp .neq 3 (.tmp 21) (.tmp 24) 3,some (some 18,false)⟩,⟨some 26,.pick (.tmp 18) (.const (.bool true)) (.tmp 25),none⟩]) (.cond (.tmp 26) (.seq (.reg [⟨some 4,.assign (.const (.bool false)),none⟩]) (.ret)) (.skip))) (.seq (.seq (.reg [⟨some 5,.assign (.const (.int .i64 0)),none⟩]) (.bloop 0 x14_L0)) (.seq (.reg [⟨some 4,.assign (.const (.bool true)),none⟩]) (.ret))))
@[simp] theorem x14_s {C : WC} {e : AE} {s : Store} {K : KS} : type_of% (@X_at C e s K _ _ x14_L0.eq_1) ∧ type_of% (@X_at C e s K _ _ x14.eq_1) := ⟨X_at x14_L0.eq_1, X_at x14.eq_1⟩
def an14 : Ann := ⟨[(6, .mix 10)], [(0, [], [2, 3, 5], [4])], []⟩
def cx14 (P : Program) (m : Nat) : WC := ⟨P, m, an14⟩
@[simp] theorem cx14_a {P : Program} {m : Nat} : (cx14 P m).P = P ∧ (cx14 P m).m = m ∧ (cx14 P m).A.clsOf 6 = .mix 10 ∧ (cx14 P m).A.frzOf 6 = [] ∧ (cx14 P m).A.loopOf 0 = ([], [2, 3, 5], [4]) := ⟨rfl, rfl, rfl, rfl, rfl⟩
instance {P : Program} {m f : Nat} [h : EnT P f] : EnT (cx14 P m).P f := h
theorem chk14 : ∀ c, Try.f14.body = some c → chkC Try.f14.ntmps an14 c = true := by intro c h; obtain rfl := Option.some.inj h; decide +kernel
theorem op14 {args : List PV} {v : PV} (h : X (cx14 Try.prog 0) x14 (argsA 0 args) [] (.fin [.tmp 4] fun v1 s1 => deref s1 6 v1 = v)) (hl : args.length ≤ Try.f14.ntmps := by rw [Try.ntmps14]; simp) : CallOK Try.prog 14 args [] v [] :=
  callX (m := 0) (cx14 Try.prog 0) x14 rfl rfl (by kernel_rfl) Try.func14 rfl rfl hl mixed (chk14 _ rfl) (by rw [Try.results14]; exact h)

theorem Same_ref (f : Fm) : ∀ g : Fm, CallOK Try.prog 14 [.agg (frm f), .agg (frm g)] [] (.bool (sameB f g)) [] := by
  induction f using Fm.ind with
  | h f ih =>
    intro g
    have he := sameB_eq f g
    refine op14 ?_
    (((try simp (implicitDefEqProofs := false)); (try simp (implicitDefEqProofs := false) (disch := first | assumption | (try simp only [lens]); omega -splitDisjunctions))); all_goals try (repeat' ((first | ((with_reducible first | refine And.intro ?_ ?_ | refine Exists.intro ?_ ?_); first | omega | (simp <;> omega)) | (with_reducible refine spl (And.intro ?_ ?_) <;> intro _)) <;> ((try simp (implicitDefEqProofs := false)); (try simp (implicitDefEqProofs := false) (disch := first | assumption | (try simp only [lens]); omega -splitDisjunctions))))))
    all_goals try (rw [he, eqL_len (by omega), Bool.and_false]; done)
    all_goals try (rw [he]; simp_all; done)
    all_goals (
      rename_i hlen
      refine W_of fun Q hQ => ?_
      have main : ∀ n i, i + n = f.kids.length → eqL sameB f.kids g.kids = eqL sameB (f.kids.drop i) (g.kids.drop i) → Q [(2, .ptr 0 0 0), (3, .ptr 1 0 0), (5, .int .i64 (i : Int))] [.rows 3 [frm f], .rows 3 [frm g]] := by
        intro n
        induction n with
        | zero =>
          intro i hi hd
          rw [List.drop_of_length_le (by omega), List.drop_of_length_le (by omega)] at hd
          apply hQ
          (((try simp (implicitDefEqProofs := false)); (try simp (implicitDefEqProofs := false) (disch := first | assumption | (try simp only [lens]); omega -splitDisjunctions))); all_goals try (repeat' ((first | ((with_reducible first | refine And.intro ?_ ?_ | refine Exists.intro ?_ ?_); first | omega | (simp <;> omega)) | (with_reducible refine spl (And.intro ?_ ?_) <;> intro _)) <;> ((try simp (implicitDefEqProofs := false)); (try simp (implicitDefEqProofs := false) (disch := first | assumption | (try simp only [lens]); omega -splitDisjunctions))))))
          all_goals (rw [he, hd]; simp_all [eqL])
        | succ n ihn =>
          intro i hi hd
          rw [eqL_drop (by omega) (by omega)] at hd
          have ihn := ihn (i + 1) (by omega)
          apply hQ
          (((try simp (implicitDefEqProofs := false)); (try simp (implicitDefEqProofs := false) (disch := first | assumption | (try simp only [lens]); omega -splitDisjunctions))); all_goals try (repeat' ((first | ((with_reducible first | refine And.intro ?_ ?_ | refine Exists.intro ?_ ?_); first | omega | (simp <;> omega)) | (with_reducible refine spl (And.intro ?_ ?_) <;> intro _) | (refine CL.clo (ih _ (List.getElem_mem _) _) ?_) | (refine CM.clo (ih _ (List.getElem_mem _) _) ?_) | (refine CD.clo (ih _ (List.getElem_mem _) _) ?_)) <;> ((try simp (implicitDefEqProofs := false)); (try simp (implicitDefEqProofs := false) (disch := first | assumption | (try simp only [lens]); omega -splitDisjunctions))))))
          all_goals first | (rw [he, hd]; simp_all; done) | (refine at2 (ihn ?_) ?_ ?_; (· rw [hd]; simp_all); (· simp); (· rfl))
      refine at2 (main _ 0 (Nat.zero_add _) rfl) ?_ ?_ <;> simp)
def x35_L0 : XC := .seq (.seq (.reg [⟨some 6,.move (.tmp 5),none⟩,⟨some 7,.move (.tmp 0),none⟩,⟨some 8,.call ⟨.builtin .len,#[.tmp 7],#[22]⟩,none⟩,⟨some 9,.binOp .lss 3 (.tmp 6) (.tmp 8) 3,none⟩]) (.cond (.tmp 9) (.skip) (.exit 0))) (.seq (.block 1 (.seq (.drawn 4 [⟨some 12,.move (.tmp 0),none⟩,⟨some 13,.move (.tmp 5),none⟩,⟨some 14,.indexAddr 22 (.tmp 12) (.tmp 13),none⟩,⟨some 15,.load 24 (.tmp 14),none⟩,⟨some 16,.load 24 (.tmp 3),none⟩,⟨some 17,.call ⟨.value (.func 14),#[.tmp 15,.tmp 16],#[24,24]⟩,none⟩]) (.cond (.tmp 17) (.seq (.reg [⟨some 4,.assign (.const (.bool true)),none⟩]) (.ret)) (.skip)))) (.reg [⟨some 10,.move (.tmp 5),none⟩,⟨some 11,.binOp .add 3 (.tmp 10) (.const (.int .i64 1)) 3,none⟩,⟨some 5,.assign (.tmp 11),none⟩]))
def x35 : XC := .seq (.reg [⟨some 3,.box 24 (.tmp 1),none⟩,⟨some 4,.assign (.const (.bool false)),none⟩]) (.seq (.seq (.reg [⟨some 5,.assign (.const (.int .i64 0)),none⟩]) (.bloop 0 x35_L0)) (.seq (.reg [⟨some 4,.assign (.const (.bool false)),none⟩]) (.ret)))
@[simp] theorem x35_s {C : WC} {e : AE} {s : Store} {K : KS} : type_of% (@X_at C e s K _ _ x35_L0.eq_1) ∧ type_of% (@X_at C e s K _ _ x35.eq_1) := ⟨X_at x35_L0.eq_1, X_at x35.eq_1⟩
def an35 : Ann := ⟨[], [(0, [], [0, 3, 5], [4])], []⟩
def cx35 (P : Program) (m : Nat) : WC := ⟨P, m, an35⟩
@[simp] theorem cx35_a {P : Program} {m : Nat} : (cx35 P m).P = P ∧ (cx35 P m).m = m ∧ (cx35 P m).A.clsOf 4 = .draw ∧ (cx35 P m).A.frzOf 4 = [] ∧ (cx35 P m).A.loopOf 0 = ([], [0, 3, 5], [4]) := ⟨rfl, rfl, rfl, rfl, rfl⟩
instance {P : Program} {m f : Nat} [h : EnT P f] : EnT (cx35 P m).P f := h
theorem chk35 : ∀ c, Try.f35.body = some c → chkC Try.f35.ntmps an35 c = true := by intro c h; obtain rfl := Option.some.inj h; decide +kernel
theorem op35 {args : List PV} {v : PV} (h : X (cx35 Try.prog 0) x35 (argsA 0 args) [] (.fin [.tmp 4] fun v1 s1 => deref s1 6 v1 = v)) (hl : args.length ≤ Try.f35.ntmps := by rw [Try.ntmps35]; simp) : CallOK Try.prog 35 args [] v [] :=
  callX (m := 0) (cx35 Try.prog 0) x35 rfl rfl (by kernel_rfl) Try.func35 rfl rfl hl mixed (chk35 _ rfl) (by rw [Try.results35]; exact h)

theorem Has_ref (l : List Fm) (f : Fm) : CallOK Try.prog 35 [.list (l.map frm), .agg (frm f)] [] (.bool (l.any fun y => sameB y f)) [] := by
  generalize hB : (l.any fun y => sameB y f) = B
  refine op35 ?_
  (((try simp (implicitDefEqProofs := false)); (try simp (implicitDefEqProofs := false) (disch := first | assumption | (try simp only [lens]); omega -splitDisjunctions))); all_goals try (repeat' ((first | ((with_reducible first | refine And.intro ?_ ?_ | refine Exists.intro ?_ ?_); first | omega | (simp <;> omega)) | (with_reducible refine spl (And.intro ?_ ?_) <;> intro _)) <;> ((try simp (implicitDefEqProofs := false)); (try simp (implicitDefEqProofs := false) (disch := first | assumption | (try simp only [lens]); omega -splitDisjunctions))))))
  refine W_of fun Q hQ => ?_
  have main : ∀ n i, i + n = l.length → (∀ j (h : j < l.length), j < i → sameB l[j] f = false) → Q [(0, .list (l.map frm)), (3, .ptr 0 0 0), (5, .int .i64 (i : Int))] [.rows 3 [frm f]] := by
    intro n
    induction n with
    | zero =>
      intro i hi hl
      have hno : B = false := by
        rw [← hB, List.any_eq_false]
        intro x hx
        obtain ⟨j, hj, rfl⟩ := List.mem_iff_getElem.1 hx
        simp [hl j hj (by omega)]
      apply hQ
      (((try simp (implicitDefEqProofs := false)); (try simp (implicitDefEqProofs := false) (disch := first | assumption | (try simp only [lens]); omega -splitDisjunctions))); all_goals try (repeat' ((first | ((with_reducible first | refine And.intro ?_ ?_ | refine Exists.intro ?_ ?_); first | omega | (simp <;> omega)) | (with_reducible refine spl (And.intro ?_ ?_) <;> intro _)) <;> ((try simp (implicitDefEqProofs := false)); (try simp (implicitDefEqProofs := false) (disch := first | assumption | (try simp only [lens]); omega -splitDisjunctions))))))
      all_goals simp [hno]
    | succ n ih =>
      intro i hi hl
      have hlt : i < l.length := by omega
      by_cases hb : sameB l[i] f = true
      · have hyes : B = true := hB ▸ List.any_eq_true.2 ⟨_, List.getElem_mem hlt, hb⟩
        apply hQ
        (((try simp (implicitDefEqProofs := false) [hb]); (try simp (implicitDefEqProofs := false) (disch := first | assumption | (try simp only [lens]); omega -splitDisjunctions) [hb])); all_goals try (repeat' ((first | ((with_reducible first | refine And.intro ?_ ?_ | refine Exists.intro ?_ ?_); first | omega | (simp <;> omega)) | (with_reducible refine spl (And.intro ?_ ?_) <;> intro _) | (refine CL.clo (Same_ref _ _) ?_) | (refine CM.clo (Same_ref _ _) ?_) | (refine CD.clo (Same_ref _ _) ?_)) <;> ((try simp (implicitDefEqProofs := false) [hb]); (try simp (implicitDefEqProofs := false) (disch := first | assumption | (try simp only [lens]); omega -splitDisjunctions) [hb])))))
        all_goals simp [hyes]
      · have hb : sameB l[i] f = false := by simpa using hb
        have ih := ih (i + 1) (by omega) (fun j hj hji => by
          by_cases e : j = i
          · subst e; exact hb
          · exact hl j hj (by omega))
        apply hQ
        (((try simp (implicitDefEqProofs := false) [hb]); (try simp (implicitDefEqProofs := false) (disch := first | assumption | (try simp only [lens]); omega -splitDisjunctions) [hb])); all_goals try (repeat' ((first | ((with_reducible first | refine And.intro ?_ ?_ | refine Exists.intro ?_ ?_); first | omega | (simp <;> omega)) | (with_reducible refine spl (And.intro ?_ ?_) <;> intro _) | (refine CL.clo (Same_ref _ _) ?_) | (refine CM.clo (Same_ref _ _) ?_) | (refine CD.clo (Same_ref _ _) ?_)) <;> ((try simp (implicitDefEqProofs := false) [hb]); (try simp (implicitDefEqProofs := false) (disch := first | assumption | (try simp only [lens]); omega -splitDisjunctions) [hb])))))
        all_goals simpa using ih
  refine at2 (main _ 0 (Nat.zero_add _) (fun j h hj => by omega)) ?_ ?_ <;> simp
/-- each once, as they come -/
noncomputable def addE (had : List Fm) (x : Fm) : List Fm := if (had.any fun y => sameB y x) = true then had else had ++ [x]
theorem addE_len : ∀ (l had : List Fm), (l.foldl addE had).length ≤ had.length + l.length
  | [], had => by simp
  | x :: r, had => by
    rw [List.foldl_cons]
    have := addE_len r (addE had x)
    have h2 : (addE had x).length ≤ had.length + 1 := by unfold addE; split <;> simp
    simp only [List.length_cons]; omega
theorem any_same {had : List Fm} {x : Fm} : (had.any fun y => sameB y x) = true ↔ x ∈ had := by
  rw [List.any_eq_true]
  exact ⟨fun ⟨y, h, e⟩ => (sameB_iff.1 e) ▸ h, fun h => ⟨x, h, sameB_iff.2 rfl⟩⟩
theorem partsE_eq : ∀ (l had : List Fm), (∀ y ∈ l, Td y) → (∀ y ∈ had, Td y) → l.foldl addE had = had ++ partsS (had.map fun y => said y 1) l
  | [], had, _, _ => by rw [partsS]; simp
  | x :: r, had, hl, hh => by
    have hr : ∀ y ∈ r, Td y := fun y hy => hl y (by simp [hy])
    rw [List.foldl_cons, partsS]
    by_cases hm : x ∈ had
    · have h1 : addE had x = had := by unfold addE; rw [if_pos (any_same.2 hm)]
      have h2 : memB (said x 1) (had.map fun y => said y 1) = true := memB_iff.2 (List.mem_map.2 ⟨x, hm, rfl⟩)
      rw [h1, if_pos h2, partsE_eq r had hr hh]
    · have h1 : addE had x = had ++ [x] := by unfold addE; rw [if_neg (fun h => hm (any_same.1 h))]
      have h2 : ¬ memB (said x 1) (had.map fun y => said y 1) = true := by
        rw [memB_iff, List.mem_map]
        rintro ⟨y, hy, e⟩
        exact hm (said_inj (hh y hy) (hl x (by simp)) e ▸ hy)
      rw [h1, if_neg h2, partsE_eq r _ hr (fun y hy => by
        rcases List.mem_append.1 hy with h | h
        · exact hh y h
        · rw [List.mem_singleton] at h; exact h ▸ hl x (by simp))]
      simp
def x13_T2 : XC := .seq (.reg [⟨some 38,.move (.tmp 3),none⟩,⟨some 2,.assign (.tmp 38),none⟩]) (.ret)
def x13_L2 : XC := .seq (.seq (.reg [⟨some 18,.move (.tmp 6),none⟩,⟨some 19,.move (.tmp 5),none⟩,⟨some 20,.call ⟨.builtin .len,#[.tmp 19],#[22]⟩,none⟩,⟨some 21,.binOp .lss 3 (.tmp 18) (.tmp 20) 3,none⟩]) (.cond (.tmp 21) (.skip) (.exit 2))) (.seq (.block 3 (.seq (.reg [⟨some 24,.move (.tmp 3),none⟩,⟨some 25,.move (.tmp 5),none⟩,⟨some 26,.move (.tmp 6),none⟩,⟨some 27,.indexAddr 22 (.tmp 25) (.tmp 26),none⟩,⟨some 28,.load 24 (.tmp 27),none⟩,⟨some 29,.call ⟨.value (.func 35),#[.tmp 24,.tmp 28],#[22,24]⟩,none⟩,⟨some 30,.unOp .not 4 (.tmp 29),none⟩]) (.cond (.tmp 30) (.reg [⟨some 31,.move (.tmp 3),none⟩,⟨some 32,.move (.tmp 5),none⟩,⟨some 33,.move (.tmp 6),none⟩,⟨some 34,.indexAddr 22 (.tmp 32) (.tmp 33),none⟩,⟨some 35,.load 24 (.tmp 34),none⟩,⟨some 36,.buildSlice 22 1 #[(0,.tmp 35)],none⟩,⟨some 37,.call ⟨.builtin .append,#[.tmp 31,.tmp 36],#[22,22]⟩,none⟩,⟨some 3,.assign (.tmp 37),none⟩]) (.skip)))) (.reg [⟨some 22,.move (.tmp 6),none⟩,⟨some 23,.binOp .add 3 (.tmp 22) (.const (.int .i64 1)) 3,none⟩,⟨some 6,.assign (.tmp 23),none⟩]))
def x13_L0 : XC := .seq (.seq (.reg [⟨some 7,.move (.tmp 4),none⟩,⟨some 8,.move (.tmp 0),none⟩,⟨some 9,.call ⟨.builtin .len,#[.tmp 8],#[22]⟩,none⟩,⟨some 10,.binOp .lss 3 (.tmp 7) (.tmp 9) 3,none⟩]) (.cond (.tmp 10) (.skip) (.exit 0))) (.seq (.block 1 (.seq (.reg [⟨some 13,.move (.tmp 0),none⟩,⟨some 14,.move (.tmp 4),none⟩,⟨some 15,.indexAddr 22 (.tmp 13) (.tmp 14),none⟩,⟨some 16,.load 24 (.tmp 15),none⟩,⟨some 17,.call ⟨.value (.func 33),#[.tmp 16,.const (.int .i64 100000)],#[24,3]⟩,none⟩,⟨some 5,.assign (.tmp 17),none⟩]) (.seq (.reg [⟨some 6,.assign (.const (.int .i64 0)),none⟩]) (.bloop 2 x13_L2)))) (.reg [⟨some 11,.move (.tmp 4),none⟩,⟨some 12,.binOp .add 3 (.tmp 11) (.const (.int .i64 1)) 3,none⟩,⟨some 4,.assign (.tmp 12),none⟩]))
def x13 : XC := .seq (.reg [⟨some 2,.assign (.const (.slice none 0 0)),none⟩]) (.seq (.reg [⟨some 3,.assign (.const (.slice none 0 0)),none⟩]) (.seq (.seq (.reg [⟨some 4,.assign (.const (.int .i64 0)),none⟩]) (.bloop 0 x13_L0)) (x13_T2)))
@[simp] theorem x13_s {C : WC} {e : AE} {s : Store} {K : KS} : type_of% (@X_at C e s K _ _ x13_T2.eq_1) ∧ type_of% (@X_at C e s K _ _ x13_L2.eq_1) ∧ type_of% (@X_at C e s K _ _ x13_L0.eq_1) ∧ type_of% (@X_at C e s K _ _ x13.eq_1) := ⟨X_at x13_T2.eq_1, X_at x13_L2.eq_1, X_at x13_L0.eq_1, X_at x13.eq_1⟩
def an13 : Ann := ⟨[], [(2, [(3, none, 3)], [0, 3, 4, 5, 6], [0, 3, 4]), (0, [(3, none, 3)], [0, 3, 4], [3])], []⟩
def cx13 (P : Program) (m : Nat) : WC := ⟨P, m, an13⟩
@[simp] theorem cx13_a {P : Program} {m : Nat} : (cx13 P m).P = P ∧ (cx13 P m).m = m ∧ (cx13 P m).A.loopOf 2 = ([(3, none, 3)], [0, 3, 4, 5, 6], [0, 3, 4]) ∧ (cx13 P m).A.loopOf 0 = ([(3, none, 3)], [0, 3, 4], [3]) := ⟨rfl, rfl, rfl, rfl⟩
instance {P : Program} {m f : Nat} [h : EnT P f] : EnT (cx13 P m).P f := h
theorem chk13 : ∀ c, Try.f13.body = some c → chkC Try.f13.ntmps an13 c = true := by intro c h; obtain rfl := Option.some.inj h; decide +kernel
theorem op13 {args : List PV} {v : PV} (h : X (cx13 Try.prog 0) x13 (argsA 0 args) [] (.fin [.tmp 2] fun v1 s1 => deref s1 6 v1 = v)) (hl : args.length ≤ Try.f13.ntmps := by rw [Try.ntmps13]; simp) : CallOK Try.prog 13 args [] v [] :=
  callX (m := 0) (cx13 Try.prog 0) x13 rfl rfl (by kernel_rfl) Try.func13 rfl rfl hl mixed (chk13 _ rfl) (by rw [Try.results13]; exact h)

theorem PartsIn_ref (f : Fm) (hf : Td f) (hl : (pre f).length ≤ 200) : CallOK Try.prog 13 [.list [frm f]] [] (.list ((partsS [] (pre f)).map frm)) [] := by
  have hw := walk_ref f 100000 (by omega) (by omega) []
  have hwl : walkL f 100000 = pre f := by
    rw [show (100000 : Int) = ((100000 : Nat) : Int) from rfl, walk_take, List.take_of_length_le (by omega)]
  rw [hwl] at hw
  have hp : partsS [] (pre f) = (pre f).foldl addE [] := by
    rw [partsE_eq _ [] (fun y hy => hf.pre hy) (fun y hy => by cases hy)]; rfl
  rw [hp]
  generalize hL : pre f = L at hw hl ⊢
  clear hwl hp
  refine op13 ?_
  (((try simp (implicitDefEqProofs := false)); (try simp (implicitDefEqProofs := false) (disch := first | assumption | (try simp only [lens]); omega -splitDisjunctions))); all_goals try (repeat' ((first | ((with_reducible first | refine And.intro ?_ ?_ | refine Exists.intro ?_ ?_); first | omega | (simp <;> omega)) | (with_reducible refine spl (And.intro ?_ ?_) <;> intro _)) <;> ((try simp (implicitDefEqProofs := false)); (try simp (implicitDefEqProofs := false) (disch := first | assumption | (try simp only [lens]); omega -splitDisjunctions))))))
  refine W_of fun Q hQ => ?_
  have q1 : Q [(0, .list [frm f]), (3, .sl 0 0 (L.foldl addE []).length), (4, .int .i64 1)] [.rows 3 ((L.foldl addE []).map frm)] := by
    apply hQ
    (((try simp (implicitDefEqProofs := false)); (try simp (implicitDefEqProofs := false) (disch := first | assumption | (try simp only [lens]); omega -splitDisjunctions))); all_goals try (repeat' ((first | ((with_reducible first | refine And.intro ?_ ?_ | refine Exists.intro ?_ ?_); first | omega | (simp <;> omega)) | (with_reducible refine spl (And.intro ?_ ?_) <;> intro _)) <;> ((try simp (implicitDefEqProofs := false)); (try simp (implicitDefEqProofs := false) (disch := first | assumption | (try simp only [lens]); omega -splitDisjunctions))))))
  apply hQ
  (((try simp (implicitDefEqProofs := false)); (try simp (implicitDefEqProofs := false) (disch := first | assumption | (try simp only [lens]); omega -splitDisjunctions))); all_goals try (repeat' ((first | ((with_reducible first | refine And.intro ?_ ?_ | refine Exists.intro ?_ ?_); first | omega | (simp <;> omega)) | (with_reducible refine spl (And.intro ?_ ?_) <;> intro _) | (refine CL.clo (hw) ?_) | (refine CM.clo (hw) ?_) | (refine CD.clo (hw) ?_)) <;> ((try simp (implicitDefEqProofs := false)); (try simp (implicitDefEqProofs := false) (disch := first | assumption | (try simp only [lens]); omega -splitDisjunctions))))))
  refine W_of fun Q2 hQ2 => ?_
  have main : ∀ n i, i + n = L.length → Q2 [(0, .list [frm f]), (3, .sl 0 0 ((L.take i).foldl addE []).length), (4, .int .i64 0), (5, .list (L.map frm)), (6, .int .i64 (i : Int))] [.rows 3 (((L.take i).foldl addE []).map frm)] := by
    intro n
    induction n with
    | zero =>
      intro i hi
      rw [List.take_of_length_le (by omega)]
      apply hQ2
      (((try simp (implicitDefEqProofs := false)); (try simp (implicitDefEqProofs := false) (disch := first | assumption | (try simp only [lens]); omega -splitDisjunctions))); all_goals try (repeat' ((first | ((with_reducible first | refine And.intro ?_ ?_ | refine Exists.intro ?_ ?_); first | omega | (simp <;> omega)) | (with_reducible refine spl (And.intro ?_ ?_) <;> intro _)) <;> ((try simp (implicitDefEqProofs := false)); (try simp (implicitDefEqProofs := false) (disch := first | assumption | (try simp only [lens]); omega -splitDisjunctions))))))
      simpa using q1
    | succ n ih =>
      intro i hi
      have hlt : i < L.length := by omega
      have ih := ih (i + 1) (by omega)
      rw [take_snoc hlt, List.foldl_append] at ih
      have hlen := addE_len (L.take i) []
      rw [List.length_take] at hlen
      generalize (L.take i).foldl addE [] = had at ih hlen ⊢
      simp only [List.foldl_cons, List.foldl_nil, addE] at ih
      have hh := Has_ref had L[i]
      have hlen : had.length ≤ 200 := by simp at hlen; omega
      generalize hB : (had.any fun y => sameB y L[i]) = B at hh ih
      apply hQ2
      cases B with
      | true =>
        rw [if_pos rfl] at ih
        (((try simp (implicitDefEqProofs := false)); (try simp (implicitDefEqProofs := false) (disch := first | assumption | (try simp only [lens]); omega -splitDisjunctions))); all_goals try (repeat' ((first | ((with_reducible first | refine And.intro ?_ ?_ | refine Exists.intro ?_ ?_); first | omega | (simp <;> omega)) | (with_reducible refine spl (And.intro ?_ ?_) <;> intro _) | (refine CL.see (hh) ?_ ?_ ?_; (focus (simp [scn]; done)); (focus (simp [flats]; done))) | (refine CD.see (hh) ?_ ?_ ?_; (focus (simp [scn]; done)); (focus (simp [flats]; done)))) <;> ((try simp (implicitDefEqProofs := false)); (try simp (implicitDefEqProofs := false) (disch := first | assumption | (try simp only [lens]); omega -splitDisjunctions))))))
        simpa using ih
      | false =>
        rw [if_neg (by simp)] at ih
        (((try simp (implicitDefEqProofs := false)); (try simp (implicitDefEqProofs := false) (disch := first | assumption | (try simp only [lens]); omega -splitDisjunctions))); all_goals try (repeat' ((first | ((with_reducible first | refine And.intro ?_ ?_ | refine Exists.intro ?_ ?_); first | omega | (simp <;> omega)) | (with_reducible refine spl (And.intro ?_ ?_) <;> intro _) | (refine CL.see (hh) ?_ ?_ ?_; (focus (simp [scn]; done)); (focus (simp [flats]; done))) | (refine CD.see (hh) ?_ ?_ ?_; (focus (simp [scn]; done)); (focus (simp [flats]; done)))) <;> ((try simp (implicitDefEqProofs := false)); (try simp (implicitDefEqProofs := false) (disch := first | assumption | (try simp only [lens]); omega -splitDisjunctions))))))
        simpa using ih
  refine at2 (main _ 0 (Nat.zero_add _)) ?_ ?_ <;> simp
end Go.Proofs.Ytliockncjdeloaa
