/-
  sequentref: Ends, KindOf.
-/
import Derived.Test.YthnobaacfjihcaaQAx
import Derived.Test.YthnobaacfjihcaaAlgQ
namespace Go.Proofs.Ythnobaacfjihcaa
open Go Go.Pv
set_option linter.unusedVariables false
set_option linter.unusedSimpArgs false
set_option maxRecDepth 100000
set_option maxHeartbeats 4000000

theorem jR_eq {n : Nat} {g : Nat → Nat → Bool} (h : isLat n g = true) : ((List.range n).map (jsI n g)).map intsRow = (List.range n).map (nRow n (jn n g)) := by
  rw [List.map_map]
  refine List.map_congr_left fun a ha => ?_
  simp only [Function.comp, intsRow, nRow, jsI_cell]
  rw [show (List.range n).map (jCell n g a) = (List.range n).map (nCell (jn n g) a) from List.map_congr_left fun b hb => by
    unfold jCell nCell
    rw [(joinI_jn h (List.mem_range.1 ha) (List.mem_range.1 hb)).1]]
theorem mR_eq {n : Nat} {g : Nat → Nat → Bool} (h : isLat n g = true) : ((List.range n).map (msI n g)).map intsRow = (List.range n).map (nRow n (mt n g)) := by
  rw [List.map_map]
  refine List.map_congr_left fun a ha => ?_
  simp only [Function.comp, intsRow, nRow, msI_cell]
  rw [show (List.range n).map (mCell n g a) = (List.range n).map (nCell (mt n g) a) from List.map_congr_left fun b hb => by
    unfold mCell nCell
    rw [(meetI_mt h (List.mem_range.1 ha) (List.mem_range.1 hb)).1]]
theorem bestI_neg {n : Nat} {f : Nat → Bool} {g : Nat → Nat → Bool} : 0 ≤ bestI n f g ↔ bestI n f g ≠ -1 := by
  unfold bestI; split <;> omega
theorem isLat_okA2 {n : Nat} {g : Nat → Nat → Bool} : (List.range n).all (okA2 n g) = isLat n g := by
  rw [Bool.eq_iff_iff, isLat_iff]
  simp only [okA2, okB, List.all_eq_true, List.mem_range, Bool.and_eq_true, decide_eq_true_eq]
  constructor
  · intro h a b ha hb
    have := h a ha b hb
    exact ⟨bestI_neg.1 this.1, bestI_neg.1 this.2⟩
  · intro h a ha b hb
    have := h a b ha hb
    exact ⟨bestI_neg.2 this.1, bestI_neg.2 this.2⟩
theorem La.bot_all {n : Nat} {t : Nat → Nat → Bool} (h : La n t) {a : Nat} (ha : a < n) : (List.range n).all (fun b => t a b) = decide (a = botL n t) := by
  have hb := h.bot (by omega)
  rw [Bool.eq_iff_iff, List.all_eq_true, decide_eq_true_eq]
  constructor
  · intro hall
    exact h.anti _ _ ha hb.1 (hall _ (List.mem_range.2 hb.1)) (hb.2 a ha)
  · rintro rfl x hx
    exact hb.2 x (List.mem_range.1 hx)
theorem La.top_all {n : Nat} {t : Nat → Nat → Bool} (h : La n t) {a : Nat} (ha : a < n) : (List.range n).all (fun b => t b a) = decide (a = topL n t) := h.flip.bot_all ha
def x35_T3 : XC := .seq (.reg [⟨some 49,.move (.tmp 5),none⟩,⟨some 50,.move (.tmp 6),none⟩,⟨some 2,.assign (.tmp 49),none⟩,⟨some 3,.assign (.tmp 50),none⟩]) (.ret)
def x35_T2 : XC := .seq (.seq (.reg [⟨some 45,.move (.tmp 8),none⟩]) (.cond (.tmp 45) (.reg [⟨some 46,.move (.tmp 7),none⟩,⟨some 5,.assign (.tmp 46),none⟩]) (.skip))) (.seq (.reg [⟨some 47,.move (.tmp 9),none⟩]) (.cond (.tmp 47) (.reg [⟨some 48,.move (.tmp 7),none⟩,⟨some 6,.assign (.tmp 48),none⟩]) (.skip)))
def x35_L2 : XC := .seq (.seq (.reg [⟨some 19,.move (.tmp 10),none⟩,⟨some 20,.fieldAddr 24 (.tmp 1) 0,none⟩,⟨some 21,.load 3 (.tmp 20),none⟩,⟨some 22,.binOp .lss 3 (.tmp 19) (.tmp 21) 3,none⟩]) (.cond (.tmp 22) (.skip) (.exit 2))) (.seq (.block 3 (.seq (.reg [⟨some 25,.move (.tmp 8),none⟩,⟨some 26,.move (.tmp 25),none⟩,⟨some 27,.move (.tmp 4),some (some 26,true)⟩,⟨some 28,.move (.tmp 7),some (some 26,true)⟩,⟨some 29,.indexAddr 39 (.tmp 27) (.tmp 28),some (some 26,true)⟩,⟨some 30,.load 41 (.tmp 29),some (some 26,true)⟩,⟨some 31,.move (.tmp 10),some (some 26,true)⟩,⟨some 32,.indexAddr 41 (.tmp 30) (.tmp 31),some (some 26,true)⟩,⟨some 33,.load 4 (.tmp 32),some (some 26,true)⟩,⟨some 34,.pick (.tmp 26) (.tmp 33) (.const (.bool false)),none⟩,⟨some 8,.assign (.tmp 34),none⟩]) (.reg [⟨some 35,.move (.tmp 9),none⟩,⟨some 36,.move (.tmp 35),none⟩,⟨some 37,.move (.tmp 4),some (some 36,true)⟩,⟨some 38,.move (.tmp 10),some (some 36,true)⟩,⟨some 39,.indexAddr 39 (.tmp 37) (.tmp 38),some (some 36,true)⟩,⟨some 40,.load 41 (.tmp 39),some (some 36,true)⟩,⟨some 41,.move (.tmp 7),some (some 36,true)⟩,⟨some 42,.indexAddr 41 (.tmp 40) (.tmp 41),some (some 36,true)⟩,⟨some 43,.load 4 (.tmp 42),some (some 36,true)⟩,⟨some 44,.pick (.tmp 36) (.tmp 43) (.const (.bool false)),none⟩,⟨some 9,.assign (.tmp 44),none⟩]))) (.reg [⟨some 23,.move (.tmp 10),none⟩,⟨some 24,.binOp .add 3 (.tmp 23) (.const (.int .i64 1)) 3,none⟩,⟨some 10,.assign (.tmp 24),none⟩]))
def x35_L0 : XC := .seq (.seq (.reg [⟨some 13,.move (.tmp 7),none⟩,⟨some 14,.fieldAddr 24 (.tmp 1) 0,none⟩,⟨some 15,.load 3 (.tmp 14),none⟩,⟨some 16,.binOp .lss 3 (.tmp 13) (.tmp 15) 3,none⟩]) (.cond (.tmp 16) (.skip) (.exit 0))) (.seq (.block 1 (.seq (.reg [⟨some 8,.assign (.const (.bool true)),none⟩]) (.seq (.reg [⟨some 9,.assign (.const (.bool true)),none⟩]) (.seq (.seq (.reg [⟨some 10,.assign (.const (.int .i64 0)),none⟩]) (.bloop 2 x35_L2)) (x35_T2))))) (.reg [⟨some 17,.move (.tmp 7),none⟩,⟨some 18,.binOp .add 3 (.tmp 17) (.const (.int .i64 1)) 3,none⟩,⟨some 7,.assign (.tmp 18),none⟩]))
def x35 : XC := .seq (.reg [⟨some 1,.box 24 (.tmp 0),none⟩,⟨some 2,.assign (.const (.int .i64 0)),none⟩,⟨some 3,.assign (.const (.int .i64 0)),none⟩]) (.seq (.reg [⟨some 11,.load 24 (.tmp 1),none⟩,⟨some 12,.call ⟨.value (.func 12),#[.tmp 11],#[24]⟩,none⟩,⟨some 4,.assign (.tmp 12),none⟩]) (.seq (.reg [⟨some 5,.assign (.const (.int .i64 (-1))),none⟩]) (.seq (.reg [⟨some 6,.assign (.const (.int .i64 (-1))),none⟩]) (.seq (.seq (.reg [⟨some 7,.assign (.const (.int .i64 0)),none⟩]) (.bloop 0 x35_L0)) (x35_T3)))))
@[simp] theorem x35_s {C : WC} {e : AE} {s : Store} {K : KS} : type_of% (@X_at C e s K _ _ x35_T3.eq_1) ∧ type_of% (@X_at C e s K _ _ x35_T2.eq_1) ∧ type_of% (@X_at C e s K _ _ x35_L2.eq_1) ∧ type_of% (@X_at C e s K _ _ x35_L0.eq_1) ∧ type_of% (@X_at C e s K _ _ x35.eq_1) := ⟨X_at x35_T3.eq_1, X_at x35_T2.eq_1, X_at x35_L2.eq_1, X_at x35_L0.eq_1, X_at x35.eq_1⟩
def an35 : Ann := ⟨[], [(2, [], [1, 4, 5, 6, 7, 8, 9, 10], [1, 4, 5, 6, 7, 8, 9]), (0, [], [1, 4, 5, 6, 7], [5, 6])], []⟩
def cx35 (P : Program) (m : Nat) : WC := ⟨P, m, an35⟩
@[simp] theorem cx35_a {P : Program} {m : Nat} : (cx35 P m).P = P ∧ (cx35 P m).m = m ∧ (cx35 P m).A.loopOf 2 = ([], [1, 4, 5, 6, 7, 8, 9, 10], [1, 4, 5, 6, 7, 8, 9]) ∧ (cx35 P m).A.loopOf 0 = ([], [1, 4, 5, 6, 7], [5, 6]) := ⟨rfl, rfl, rfl, rfl⟩
instance {P : Program} {m f : Nat} [h : EnT P f] : EnT (cx35 P m).P f := h
theorem chk35 : ∀ c, Try.f35.body = some c → chkC Try.f35.ntmps an35 c = true := by intro c h; obtain rfl := Option.some.inj h; decide +kernel
theorem op35 {args : List PV} {v : PV} (h : X (cx35 Try.prog 0) x35 (argsA 0 args) [] (.fin [.tmp 2, .tmp 3] fun v1 s1 => deref s1 6 v1 = v)) (hl : args.length ≤ Try.f35.ntmps := by rw [Try.ntmps35]; simp) : CallOK Try.prog 35 args [] v [] :=
  callX (m := 0) (cx35 Try.prog 0) x35 rfl rfl (by kernel_rfl) Try.func35 rfl rfl hl mixed (chk35 _ rfl) (by rw [Try.results35]; exact h)

theorem Ends_ref (o : Ord) (n : Nat) (hn : o.n = n) (h20 : n ≤ 20) (h1 : 0 < n) (hE : ∀ p ∈ o.ps, 0 ≤ p.1 ∧ p.1 < n ∧ 0 ≤ p.2 ∧ p.2 < n) (h5 : o.ps.length ≤ 500) (hL : La n (leB o.ps)) : CallOK Try.prog 35 [.agg (ord o)] [] (.tuple [.int .i64 (botL n (leB o.ps) : Int), .int .i64 (topL n (leB o.ps) : Int)]) [] := by
  have hs := AtMost_ref o n hn h20 hE h5
  obtain ⟨m, E⟩ := o
  simp only at hn hE hs hL ⊢
  subst hn
  simp only [ord] at hs ⊢
  generalize leB E = g at *
  have hba := fun a (ha : a < n) => hL.bot_all ha
  have hta := fun a (ha : a < n) => hL.top_all ha
  have hbl := (hL.bot h1).1
  have htl := (hL.top h1).1
  clear hL
  generalize botL n g = lo at *
  generalize topL n g = hi at *
  refine op35 ?_
  (((try simp (implicitDefEqProofs := false)); (try simp (implicitDefEqProofs := false) (disch := first | assumption | (try simp only [lens]); omega -splitDisjunctions))); all_goals try (repeat' ((first | ((with_reducible first | refine And.intro ?_ ?_ | refine Exists.intro ?_ ?_); first | omega | (simp <;> omega)) | (with_reducible refine spl (And.intro ?_ ?_) <;> intro _) | (refine CL.clo (hs) ?_) | (refine CM.clo (hs) ?_) | (refine CD.clo (hs) ?_)) <;> ((try simp (implicitDefEqProofs := false)); (try simp (implicitDefEqProofs := false) (disch := first | assumption | (try simp only [lens]); omega -splitDisjunctions))))))
  refine W_of fun Q hQ => ?_
  have main : ∀ k a, a + k = n → Q [(1, .ptr 0 0 0), (4, .list ((tabF n g).map tabRowF)), (5, .int .i64 (if lo < a then (lo : Int) else -1)), (6, .int .i64 (if hi < a then (hi : Int) else -1)), (7, .int .i64 (a : Int))] [.rows 2 [[.int .i64 (n : Int), .list (E.map relRow)]]] := by
    intro k
    induction k with
    | zero =>
      intro a ha
      obtain rfl : a = n := by omega
      rw [if_pos hbl, if_pos htl]
      apply hQ
      clear hQ
      (((try simp (implicitDefEqProofs := false)); (try simp (implicitDefEqProofs := false) (disch := first | assumption | (try simp only [lens]); omega -splitDisjunctions))); all_goals try (repeat' ((first | ((with_reducible first | refine And.intro ?_ ?_ | refine Exists.intro ?_ ?_); first | omega | (simp <;> omega)) | (with_reducible refine spl (And.intro ?_ ?_) <;> intro _)) <;> ((try simp (implicitDefEqProofs := false)); (try simp (implicitDefEqProofs := false) (disch := first | assumption | (try simp only [lens]); omega -splitDisjunctions))))))
    | succ k ih =>
      intro a ha
      have han : a < n := by omega
      have ih := ih (a + 1) (by omega)
      have h1 := hba a han
      have h2 := hta a han
      rw [show (if lo < a + 1 then (lo : Int) else -1) = if a = lo then (a : Int) else if lo < a then (lo : Int) else -1 from by split <;> split <;> (try split) <;> omega, show (if hi < a + 1 then (hi : Int) else -1) = if a = hi then (a : Int) else if hi < a then (hi : Int) else -1 from by split <;> split <;> (try split) <;> omega] at ih
      generalize (if lo < a then (lo : Int) else -1) = x at *
      generalize (if hi < a then (hi : Int) else -1) = y at *
      apply hQ
      clear hQ
      (((try simp (implicitDefEqProofs := false)); (try simp (implicitDefEqProofs := false) (disch := first | assumption | (try simp only [lens]); omega -splitDisjunctions))); all_goals try (repeat' ((first | ((with_reducible first | refine And.intro ?_ ?_ | refine Exists.intro ?_ ?_); first | omega | (simp <;> omega)) | (with_reducible refine spl (And.intro ?_ ?_) <;> intro _)) <;> ((try simp (implicitDefEqProofs := false)); (try simp (implicitDefEqProofs := false) (disch := first | assumption | (try simp only [lens]); omega -splitDisjunctions))))))
      refine W_of fun Q hQ => ?_
      have main : ∀ k b, b + k = n → Q [(1, .ptr 0 0 0), (4, .list ((tabF n g).map tabRowF)), (5, .int .i64 x), (6, .int .i64 y), (7, .int .i64 (a : Int)), (8, .bool ((List.range b).all fun b => g a b)), (9, .bool ((List.range b).all fun b => g b a)), (10, .int .i64 (b : Int))] [.rows 2 [[.int .i64 (n : Int), .list (E.map relRow)]]] := by
        intro k
        induction k with
        | zero =>
          intro b hb
          obtain rfl : b = n := by omega
          rw [h1, h2]
          apply hQ
          clear hQ h1 h2
          cases hp : decide (a = lo) <;> cases hq : decide (a = hi) <;> simp only [decide_eq_true_eq, decide_eq_false_iff_not] at hp hq
          all_goals (first | rw [if_pos hp] at ih | rw [if_neg hp] at ih)
          all_goals (first | rw [if_pos hq] at ih | rw [if_neg hq] at ih)
          all_goals ((((try simp (implicitDefEqProofs := false)); (try simp (implicitDefEqProofs := false) (disch := first | assumption | (try simp only [lens]); omega -splitDisjunctions))); all_goals try (repeat' ((first | ((with_reducible first | refine And.intro ?_ ?_ | refine Exists.intro ?_ ?_); first | omega | (simp <;> omega)) | (with_reducible refine spl (And.intro ?_ ?_) <;> intro _)) <;> ((try simp (implicitDefEqProofs := false)); (try simp (implicitDefEqProofs := false) (disch := first | assumption | (try simp only [lens]); omega -splitDisjunctions)))))))
          all_goals exact ih
        | succ k ih =>
          intro b hb
          have hbn : b < n := by omega
          have ih := ih (b + 1) (by omega)
          rw [List.range_succ, List.all_append, List.all_append, List.all_cons, List.all_cons, List.all_nil, List.all_nil, Bool.and_true, Bool.and_true] at ih
          generalize (List.range b).all (fun b => g a b) = x at *
          generalize (List.range b).all (fun b => g b a) = y at *
          apply hQ
          clear hQ
          (((try simp (implicitDefEqProofs := false) [han, hbn, tabRowF, tabF_get, rowF_get]); (try simp (implicitDefEqProofs := false) (disch := first | assumption | (try simp only [lens]); omega -splitDisjunctions) [han, hbn, tabRowF, tabF_get, rowF_get])); all_goals try (repeat' ((first | ((with_reducible first | refine And.intro ?_ ?_ | refine Exists.intro ?_ ?_); first | omega | (simp <;> omega)) | (with_reducible refine spl (And.intro ?_ ?_) <;> intro _)) <;> ((try simp (implicitDefEqProofs := false) [han, hbn, tabRowF, tabF_get, rowF_get]); (try simp (implicitDefEqProofs := false) (disch := first | assumption | (try simp only [lens]); omega -splitDisjunctions) [han, hbn, tabRowF, tabF_get, rowF_get])))))
          all_goals (clear h1 h2 hs; refine at2 ih ?_ ?_ <;> simp_all)
      refine at2 (main _ 0 (Nat.zero_add _)) ?_ ?_ <;> simp
  refine at2 (main _ 0 (Nat.zero_add _)) ?_ ?_ <;> simp
/-! the kinds, by partial results -/
section
variable (n : Nat) (p : Nat → Nat → Nat → Bool)
def p3 (a b c : Nat) : Bool := (List.range c).all (p a b)
def p2 (a b : Nat) : Bool := (List.range b).all fun b => p3 p a b n
def p1 (a : Nat) : Bool := (List.range a).all fun a => p2 n p a n
theorem p1_all : p1 n p n = each3 n p := rfl
theorem p1_succ (a : Nat) : p1 n p (a + 1) = (p1 n p a && p2 n p a n) := by unfold p1; rw [List.range_succ, List.all_append, List.all_cons, List.all_nil, Bool.and_true]
theorem p2_succ (a b : Nat) : p2 n p a (b + 1) = (p2 n p a b && p3 p a b n) := by unfold p2; rw [List.range_succ, List.all_append, List.all_cons, List.all_nil, Bool.and_true]
theorem p3_succ (a b c : Nat) : p3 p a b (c + 1) = (p3 p a b c && p a b c) := by unfold p3; rw [List.range_succ, List.all_append, List.all_cons, List.all_nil, Bool.and_true]
end
def x19_T7 : XC := .seq (.reg [⟨some 166,.load 30 (.tmp 7),none⟩,⟨none,.store 30 (.tmp 2) (.tmp 166),none⟩]) (.ret)
def x19_T6 : XC := .reg [⟨some 160,.indexAddr 30 (.tmp 7) (.const (.int .i64 3)),none⟩,⟨some 161,.load 4 (.tmp 160),none⟩,⟨some 162,.move (.tmp 161),none⟩,⟨some 163,.move (.tmp 14),some (some 162,true)⟩,⟨some 164,.pick (.tmp 162) (.tmp 163) (.const (.bool false)),none⟩,⟨some 165,.indexAddr 30 (.tmp 7) (.const (.int .i64 3)),none⟩,⟨none,.store 4 (.tmp 165) (.tmp 164),none⟩]
def x19_L8 : XC := .seq (.seq (.reg [⟨some 131,.move (.tmp 15),none⟩,⟨some 132,.fieldAddr 24 (.tmp 1) 0,none⟩,⟨some 133,.load 3 (.tmp 132),none⟩,⟨some 134,.binOp .lss 3 (.tmp 131) (.tmp 133) 3,none⟩]) (.cond (.tmp 134) (.skip) (.exit 8))) (.seq (.block 9 (.reg [⟨some 137,.move (.tmp 14),none⟩,⟨some 138,.move (.tmp 137),none⟩,⟨some 139,.move (.tmp 3),some (some 138,false)⟩,⟨some 140,.move (.tmp 13),some (some 138,false)⟩,⟨some 141,.indexAddr 33 (.tmp 139) (.tmp 140),some (some 138,false)⟩,⟨some 142,.load 37 (.tmp 141),some (some 138,false)⟩,⟨some 143,.move (.tmp 15),some (some 138,false)⟩,⟨some 144,.indexAddr 37 (.tmp 142) (.tmp 143),some (some 138,false)⟩,⟨some 145,.load 3 (.tmp 144),some (some 138,false)⟩,⟨some 146,.move (.tmp 12),some (some 138,false)⟩,⟨some 147,.binOp .eql 3 (.tmp 145) (.tmp 146) 3,some (some 138,false)⟩,⟨some 148,.move (.tmp 147),some (some 138,false)⟩,⟨some 149,.move (.tmp 4),some (some 148,true)⟩,⟨some 150,.move (.tmp 13),some (some 148,true)⟩,⟨some 151,.indexAddr 33 (.tmp 149) (.tmp 150),some (some 148,true)⟩,⟨some 152,.load 37 (.tmp 151),some (some 148,true)⟩,⟨some 153,.move (.tmp 15),some (some 148,true)⟩,⟨some 154,.indexAddr 37 (.tmp 152) (.tmp 153),some (some 148,true)⟩,⟨some 155,.load 3 (.tmp 154),some (some 148,true)⟩,⟨some 156,.move (.tmp 11),some (some 148,true)⟩,⟨some 157,.binOp .eql 3 (.tmp 155) (.tmp 156) 3,some (some 148,true)⟩,⟨some 158,.pick (.tmp 148) (.tmp 157) (.const (.bool false)),some (some 138,false)⟩,⟨some 159,.pick (.tmp 138) (.const (.bool true)) (.tmp 158),none⟩,⟨some 14,.assign (.tmp 159),none⟩])) (.reg [⟨some 135,.move (.tmp 15),none⟩,⟨some 136,.binOp .add 3 (.tmp 135) (.const (.int .i64 1)) 3,none⟩,⟨some 15,.assign (.tmp 136),none⟩]))
def x19_L6 : XC := .seq (.seq (.reg [⟨some 125,.move (.tmp 13),none⟩,⟨some 126,.fieldAddr 24 (.tmp 1) 0,none⟩,⟨some 127,.load 3 (.tmp 126),none⟩,⟨some 128,.binOp .lss 3 (.tmp 125) (.tmp 127) 3,none⟩]) (.cond (.tmp 128) (.skip) (.exit 6))) (.seq (.block 7 (.seq (.reg [⟨some 14,.assign (.const (.bool false)),none⟩]) (.seq (.seq (.reg [⟨some 15,.assign (.const (.int .i64 0)),none⟩]) (.bloop 8 x19_L8)) (x19_T6)))) (.reg [⟨some 129,.move (.tmp 13),none⟩,⟨some 130,.binOp .add 3 (.tmp 129) (.const (.int .i64 1)) 3,none⟩,⟨some 13,.assign (.tmp 130),none⟩]))
def x19_T3 : XC := .seq (.reg [⟨some 118,.load 24 (.tmp 1),none⟩,⟨some 119,.call ⟨.value (.func 35),#[.tmp 118],#[24]⟩,none⟩,⟨some 117,.move (.tmp 119),none⟩,⟨some 120,.extract (.tmp 117) 0,none⟩,⟨some 121,.extract (.tmp 117) 1,none⟩,⟨some 11,.assign (.tmp 120),none⟩,⟨some 12,.assign (.tmp 121),none⟩]) (.seq (.reg [⟨some 122,.indexAddr 30 (.tmp 7) (.const (.int .i64 2)),none⟩,⟨some 123,.load 4 (.tmp 122),none⟩,⟨some 124,.indexAddr 30 (.tmp 7) (.const (.int .i64 3)),none⟩,⟨none,.store 4 (.tmp 124) (.tmp 123),none⟩]) (.seq (.seq (.reg [⟨some 13,.assign (.const (.int .i64 0)),none⟩]) (.bloop 6 x19_L6)) (x19_T7)))
def x19_L4 : XC := .seq (.seq (.reg [⟨some 40,.move (.tmp 10),none⟩,⟨some 41,.fieldAddr 24 (.tmp 1) 0,none⟩,⟨some 42,.load 3 (.tmp 41),none⟩,⟨some 43,.binOp .lss 3 (.tmp 40) (.tmp 42) 3,none⟩]) (.cond (.tmp 43) (.skip) (.exit 4))) (.seq (.block 5 (.seq (.seq (.drawn 15 [⟨some 46,.move (.tmp 6),none⟩,⟨some 47,.move (.tmp 8),none⟩,⟨some 48,.indexAddr 39 (.tmp 46) (.tmp 47),none⟩,⟨some 49,.load 41 (.tmp 48),none⟩,⟨some 50,.move (.tmp 10),none⟩,⟨some 51,.indexAddr 41 (.tmp 49) (.tmp 50),none⟩,⟨some 52,.load 4 (.tmp 51),none⟩,⟨some 53,.move (.tmp 52),none⟩,⟨some 54,.move (.tmp 3),some (some 53,true)⟩,⟨some 55,.move (.tmp 8),some (some 53,true)⟩,⟨some 56,.indexAddr 33 (.tmp 54) (.tmp 55),some (some 53,true)⟩,⟨some 57,.load 37 (.tmp 56),some (some 53,true)⟩,⟨some 58,.move (.tmp 4),some (some 53,true)⟩,⟨some 59,.move (.tmp 9),some (some 53,true)⟩,⟨some 60,.indexAddr 33 (.tmp 58) (.tmp 59),some (some 53,true)⟩,⟨some 61,.load 37 (.tmp 60),some (some 53,true)⟩,⟨some 62,.move (.tmp 10),some (some 53,true)⟩,⟨some 63,.indexAddr 37 (.tmp 61) (.tmp 62),some (some 53,true)⟩,⟨some 64,.load 3 (.tmp 63),some (some 53,true)⟩,⟨some 65,.indexAddr 37 (.tmp 57) (.tmp 64),some (some 53,true)⟩,⟨some 66,.load 3 (.tmp 65),some (some 53,true)⟩,⟨some 67,.move (.tmp 4),some (some 53,true)⟩,⟨some 68,.move (.tmp 10),some (some 53,true)⟩,⟨some 69,.indexAddr 33 (.tmp 67) (.tmp 68),some (some 53,true)⟩,⟨some 70,.load 37 (.tmp 69),some (some 53,true)⟩,⟨some 71,.move (.tmp 3),some (some 53,true)⟩,⟨some 72,.move (.tmp 8),some (some 53,true)⟩,⟨some 73,.indexAddr 33 (.tmp 71) (.tmp 72),some (some 53,true)⟩,⟨some 74,.load 37 (.tmp 73),some (some 53,true)⟩,⟨some 75,.move (.tmp 9),some (some 53,true)⟩,⟨some 76,.indexAddr 37 (.tmp 74) (.tmp 75),some (some 53,true)⟩,⟨some 77,.load 3 (.tmp 76),some (some 53,true)⟩,⟨some 78,.indexAddr 37 (.tmp 70) (.tmp 77),some (some 53,true)⟩,⟨some 79,.load 3 (.tmp 78),some (some 53,true)⟩,⟨some 80,.binOp .neq 3 (.tmp 66) (.tmp 79) 3,some (some 53,true)⟩,⟨some 81,.pick (.tmp 53) (.tmp 80) (.const (.bool false)),none⟩]) (.cond (.tmp 81) (.reg [⟨some 82,.indexAddr 30 (.tmp 7) (.const (.int .i64 1)),none⟩,⟨none,.store 4 (.tmp 82) (.const (.bool false)),none⟩]) (.skip))) (.seq (.drawn 17 [⟨some 83,.move (.tmp 4),none⟩,⟨some 84,.move (.tmp 8),none⟩,⟨some 85,.indexAddr 33 (.tmp 83) (.tmp 84),none⟩,⟨some 86,.load 37 (.tmp 85),none⟩,⟨some 87,.move (.tmp 3),none⟩,⟨some 88,.move (.tmp 9),none⟩,⟨some 89,.indexAddr 33 (.tmp 87) (.tmp 88),none⟩,⟨some 90,.load 37 (.tmp 89),none⟩,⟨some 91,.move (.tmp 10),none⟩,⟨some 92,.indexAddr 37 (.tmp 90) (.tmp 91),none⟩,⟨some 93,.load 3 (.tmp 92),none⟩,⟨some 94,.indexAddr 37 (.tmp 86) (.tmp 93),none⟩,⟨some 95,.load 3 (.tmp 94),none⟩,⟨some 96,.move (.tmp 3),none⟩,⟨some 97,.move (.tmp 4),none⟩,⟨some 98,.move (.tmp 8),none⟩,⟨some 99,.indexAddr 33 (.tmp 97) (.tmp 98),none⟩,⟨some 100,.load 37 (.tmp 99),none⟩,⟨some 101,.move (.tmp 9),none⟩,⟨some 102,.indexAddr 37 (.tmp 100) (.tmp 101),none⟩,⟨some 103,.load 3 (.tmp 102),none⟩,⟨some 104,.indexAddr 33 (.tmp 96) (.tmp 103),none⟩,⟨some 105,.load 37 (.tmp 104),none⟩,⟨some 106,.move (.tmp 4),none⟩,⟨some 107,.move (.tmp 8),none⟩,⟨some 108,.indexAddr 33 (.tmp 106) (.tmp 107),none⟩,⟨some 109,.load 37 (.tmp 108),none⟩,⟨some 110,.move (.tmp 10),none⟩,⟨some 111,.indexAddr 37 (.tmp 109) (.tmp 110),none⟩,⟨some 112,.load 3 (.tmp 111),none⟩,⟨some 113,.indexAddr 37 (.tmp 105) (.tmp 112),none⟩,⟨some 114,.load 3 (.tmp 113),none⟩,⟨some 115,.binOp .neq 3 (.tmp 95) (.tmp 114) 3,none⟩]) (.cond (.tmp 115) (.reg [⟨some 116,.indexAddr 30 (.tmp 7) (.const (.int .i64 2)),none⟩,⟨none,.store 4 (.tmp 116) (.const (.bool false)),none⟩]) (.skip))))) (.reg [⟨some 44,.move (.tmp 10),none⟩,⟨some 45,.binOp .add 3 (.tmp 44) (.const (.int .i64 1)) 3,none⟩,⟨some 10,.assign (.tmp 45),none⟩]))
def x19_L2 : XC := .seq (.seq (.reg [⟨some 34,.move (.tmp 9),none⟩,⟨some 35,.fieldAddr 24 (.tmp 1) 0,none⟩,⟨some 36,.load 3 (.tmp 35),none⟩,⟨some 37,.binOp .lss 3 (.tmp 34) (.tmp 36) 3,none⟩]) (.cond (.tmp 37) (.skip) (.exit 2))) (.seq (.block 3 (.seq (.reg [⟨some 10,.assign (.const (.int .i64 0)),none⟩]) (.bloop 4 x19_L4))) (.reg [⟨some 38,.move (.tmp 9),none⟩,⟨some 39,.binOp .add 3 (.tmp 38) (.const (.int .i64 1)) 3,none⟩,⟨some 9,.assign (.tmp 39),none⟩]))
def x19_L0 : XC := .seq (.seq (.reg [⟨some 28,.move (.tmp 8),none⟩,⟨some 29,.fieldAddr 24 (.tmp 1) 0,none⟩,⟨some 30,.load 3 (.tmp 29),none⟩,⟨some 31,.binOp .lss 3 (.tmp 28) (.tmp 30) 3,none⟩]) (.cond (.tmp 31) (.skip) (.exit 0))) (.seq (.block 1 (.seq (.reg [⟨some 9,.assign (.const (.int .i64 0)),none⟩]) (.bloop 2 x19_L2))) (.reg [⟨some 32,.move (.tmp 8),none⟩,⟨some 33,.binOp .add 3 (.tmp 32) (.const (.int .i64 1)) 3,none⟩,⟨some 8,.assign (.tmp 33),none⟩]))
def x19 : XC := .seq (.reg [⟨some 1,.box 24 (.tmp 0),none⟩,⟨some 2,.alloc 30,none⟩]) (.seq (.reg [⟨some 17,.load 24 (.tmp 1),none⟩,⟨some 18,.call ⟨.value (.func 18),#[.tmp 17],#[24]⟩,none⟩,⟨some 16,.move (.tmp 18),none⟩,⟨some 19,.extract (.tmp 16) 0,none⟩,⟨some 20,.extract (.tmp 16) 1,none⟩,⟨some 21,.extract (.tmp 16) 2,none⟩,⟨some 3,.assign (.tmp 19),none⟩,⟨some 4,.assign (.tmp 20),none⟩,⟨some 5,.assign (.tmp 21),none⟩]) (.seq (.seq (.reg [⟨some 22,.move (.tmp 5),none⟩,⟨some 23,.unOp .not 4 (.tmp 22),none⟩]) (.cond (.tmp 23) (.seq (.reg [⟨some 24,.build 30 #[],none⟩,⟨none,.store 30 (.tmp 2) (.tmp 24),none⟩]) (.ret)) (.skip))) (.seq (.reg [⟨some 25,.load 24 (.tmp 1),none⟩,⟨some 26,.call ⟨.value (.func 12),#[.tmp 25],#[24]⟩,none⟩,⟨some 6,.assign (.tmp 26),none⟩]) (.seq (.reg [⟨some 27,.build 30 #[(0,.const (.bool true)),(1,.const (.bool true)),(2,.const (.bool true)),(3,.const (.bool true))],none⟩,⟨some 7,.alloc 30,none⟩,⟨none,.store 30 (.tmp 7) (.tmp 27),none⟩]) (.seq (.seq (.reg [⟨some 8,.assign (.const (.int .i64 0)),none⟩]) (.bloop 0 x19_L0)) (x19_T3))))))
@[simp] theorem x19_s {C : WC} {e : AE} {s : Store} {K : KS} : type_of% (@X_at C e s K _ _ x19_T7.eq_1) ∧ type_of% (@X_at C e s K _ _ x19_T6.eq_1) ∧ type_of% (@X_at C e s K _ _ x19_L8.eq_1) ∧ type_of% (@X_at C e s K _ _ x19_L6.eq_1) ∧ type_of% (@X_at C e s K _ _ x19_T3.eq_1) ∧ type_of% (@X_at C e s K _ _ x19_L4.eq_1) ∧ type_of% (@X_at C e s K _ _ x19_L2.eq_1) ∧ type_of% (@X_at C e s K _ _ x19_L0.eq_1) ∧ type_of% (@X_at C e s K _ _ x19.eq_1) := ⟨X_at x19_T7.eq_1, X_at x19_T6.eq_1, X_at x19_L8.eq_1, X_at x19_L6.eq_1, X_at x19_T3.eq_1, X_at x19_L4.eq_1, X_at x19_L2.eq_1, X_at x19_L0.eq_1, X_at x19.eq_1⟩
def an19 : Ann := ⟨[(15, .mix 34)], [(8, [], [1, 2, 3, 4, 7, 11, 12, 13, 14, 15], [1, 2, 3, 4, 7, 11, 12, 13, 14]), (6, [], [1, 2, 3, 4, 7, 11, 12, 13], [2, 7]), (4, [], [1, 2, 3, 4, 6, 7, 8, 9, 10], [1, 2, 3, 4, 6, 7, 8, 9]), (2, [], [1, 2, 3, 4, 6, 7, 8, 9], [1, 2, 3, 4, 6, 7, 8]), (0, [], [1, 2, 3, 4, 6, 7, 8], [1, 2, 3, 4, 7])], []⟩
def cx19 (P : Program) (m : Nat) : WC := ⟨P, m, an19⟩
@[simp] theorem cx19_a {P : Program} {m : Nat} : (cx19 P m).P = P ∧ (cx19 P m).m = m ∧ (cx19 P m).A.clsOf 15 = .mix 34 ∧ (cx19 P m).A.clsOf 17 = .draw ∧ (cx19 P m).A.frzOf 15 = [] ∧ (cx19 P m).A.frzOf 17 = [] ∧ (cx19 P m).A.loopOf 8 = ([], [1, 2, 3, 4, 7, 11, 12, 13, 14, 15], [1, 2, 3, 4, 7, 11, 12, 13, 14]) ∧ (cx19 P m).A.loopOf 6 = ([], [1, 2, 3, 4, 7, 11, 12, 13], [2, 7]) ∧ (cx19 P m).A.loopOf 4 = ([], [1, 2, 3, 4, 6, 7, 8, 9, 10], [1, 2, 3, 4, 6, 7, 8, 9]) ∧ (cx19 P m).A.loopOf 2 = ([], [1, 2, 3, 4, 6, 7, 8, 9], [1, 2, 3, 4, 6, 7, 8]) ∧ (cx19 P m).A.loopOf 0 = ([], [1, 2, 3, 4, 6, 7, 8], [1, 2, 3, 4, 7]) := ⟨rfl, rfl, rfl, rfl, rfl, rfl, rfl, rfl, rfl, rfl, rfl⟩
instance {P : Program} {m f : Nat} [h : EnT P f] : EnT (cx19 P m).P f := h
theorem chk19 : ∀ c, Try.f19.body = some c → chkC Try.f19.ntmps an19 c = true := by intro c h; obtain rfl := Option.some.inj h; decide +kernel
theorem op19 {args : List PV} {v : PV} (h : X (cx19 Try.prog 0) x19 (argsA 0 args) [] (.fin [.cell 2 30] fun v1 s1 => deref s1 6 v1 = v)) (hl : args.length ≤ Try.f19.ntmps := by rw [Try.ntmps19]; simp) : CallOK Try.prog 19 args [] v [] :=
  callX (m := 0) (cx19 Try.prog 0) x19 rfl rfl (by kernel_rfl) Try.func19 rfl rfl hl mixed (chk19 _ rfl) (by rw [Try.results19]; exact h)

theorem KindOf_ref (o : Ord) (hz : (ofault o).1 = 0) : CallOK Try.prog 19 [.agg (ord o)] [] (.agg ((kindL o.n.toNat (leB o.ps)).map .bool)) [] := by
  obtain ⟨h0, h1, h2, h3, h4, h5⟩ := ofault_ok hz
  have hPO := leB_PO hz
  obtain ⟨n, E⟩ := o
  simp only at h1 h2 h3 h4 h5 hPO ⊢
  obtain ⟨n, rfl⟩ : ∃ k : Nat, n = (k : Int) := ⟨n.toNat, by omega⟩
  have hs := AtMost_ref ⟨(n : Int), E⟩ n rfl (by omega) h4 h3
  have hb := Bounds_ref ⟨(n : Int), E⟩ n rfl (by omega) h4 h3
  have he := fun hL => Ends_ref ⟨(n : Int), E⟩ n rfl (by omega) (by omega) h4 h3 hL
  simp only [Int.toNat_natCast, ord, isLat_okA2] at hPO hs hb he ⊢
  generalize leB E = g at *
  unfold kindL
  refine op19 ?_
  clear h0 h4 h5 hz
  cases hL : isLat n g with
  | false =>
    rw [hL] at hb
    (((try simp (implicitDefEqProofs := false)); (try simp (implicitDefEqProofs := false) (disch := first | assumption | (try simp only [lens]); omega -splitDisjunctions))); all_goals try (repeat' ((first | ((with_reducible first | refine And.intro ?_ ?_ | refine Exists.intro ?_ ?_); first | omega | (simp <;> omega)) | (with_reducible refine spl (And.intro ?_ ?_) <;> intro _) | (refine CL.clo (hb) ?_) | (refine CM.clo (hb) ?_) | (refine CD.clo (hb) ?_)) <;> ((try simp (implicitDefEqProofs := false)); (try simp (implicitDefEqProofs := false) (disch := first | assumption | (try simp only [lens]); omega -splitDisjunctions))))))
  | true =>
    have hLa : La n g := ⟨hPO, hL⟩
    rw [hL, jR_eq hL, mR_eq hL] at hb
    have he := he hLa
    have hj := fun a b ha hb => (joinI_jn hL (a := a) (b := b) ha hb).2
    have hm := fun a b ha hb => (meetI_mt hL (a := a) (b := b) ha hb).2
    have hmod : modL n g = each3 n fun a b c => !g a c || decide (jn n g a (mt n g b c) = mt n g c (jn n g a b)) := each_cg fun a b c ha hb hc => by rw [hLa.mcomm (hLa.jlt ha hb) hc]
    have hdis : distL n g = each3 n fun a b c => decide (mt n g a (jn n g b c) = jn n g (mt n g a b) (mt n g a c)) := rfl
    have hcomp : compL n g = (List.range n).all fun a => (List.range n).any fun b => decide (jn n g a b = topL n g) && decide (mt n g a b = botL n g) := rfl
    rw [← p1_all] at hmod hdis
    obtain ⟨p, hp⟩ : ∃ p : Nat → Nat → Nat → Bool, p = fun a b c => !g a c || decide (jn n g a (mt n g b c) = mt n g c (jn n g a b)) := ⟨_, rfl⟩
    obtain ⟨q, hq⟩ : ∃ q : Nat → Nat → Nat → Bool, q = fun a b c => decide (mt n g a (jn n g b c) = jn n g (mt n g a b) (mt n g a c)) := ⟨_, rfl⟩
    rw [← hp] at hmod
    rw [← hq] at hdis
    have hp := fun a b c => congrFun (congrFun (congrFun hp a) b) c
    have hq := fun a b c => congrFun (congrFun (congrFun hq a) b) c
    generalize modL n g = mo at *
    generalize distL n g = di at *
    generalize compL n g = co at *
    generalize topL n g = to at *
    generalize botL n g = bo at *
    generalize jn n g = j at *
    generalize mt n g = m at *
    clear hLa hL hPO
    (((try simp (implicitDefEqProofs := false)); (try simp (implicitDefEqProofs := false) (disch := first | assumption | (try simp only [lens]); omega -splitDisjunctions))); all_goals try (repeat' ((first | ((with_reducible first | refine And.intro ?_ ?_ | refine Exists.intro ?_ ?_); first | omega | (simp <;> omega)) | (with_reducible refine spl (And.intro ?_ ?_) <;> intro _) | (refine CL.clo (hb) ?_) | (refine CM.clo (hb) ?_) | (refine CD.clo (hb) ?_) | (refine CL.clo (hs) ?_) | (refine CM.clo (hs) ?_) | (refine CD.clo (hs) ?_)) <;> ((try simp (implicitDefEqProofs := false)); (try simp (implicitDefEqProofs := false) (disch := first | assumption | (try simp only [lens]); omega -splitDisjunctions))))))
    clear hb hs
    refine W_of fun Q hQ => ?_
    have main : ∀ k a, a + k = n → Q [(1, .ptr 0 0 0), (2, .ptr 1 0 0), (3, .list ((List.range n).map (nRow n (j)))), (4, .list ((List.range n).map (nRow n (m)))), (6, .list ((tabF n g).map tabRowF)), (7, .ptr 2 0 0), (8, .int .i64 (a : Int))] [.rows 2 [[.int .i64 (n : Int), .list (E.map relRow)]], .rows 4 [[.bool false, .bool false, .bool false, .bool false]], .rows 4 [[.bool true, .bool (p1 n p a), .bool (p1 n q a), .bool true]]] := by
      intro k
      induction k with
      | zero =>
        intro a ha
        obtain rfl : a = n := by omega
        rw [← hmod, ← hdis]
        apply hQ
        clear hQ hmod hdis hp hq
        (((try simp (implicitDefEqProofs := false)); (try simp (implicitDefEqProofs := false) (disch := first | assumption | (try simp only [lens]); omega -splitDisjunctions))); all_goals try (repeat' ((first | ((with_reducible first | refine And.intro ?_ ?_ | refine Exists.intro ?_ ?_); first | omega | (simp <;> omega)) | (with_reducible refine spl (And.intro ?_ ?_) <;> intro _) | (refine CL.clo (he) ?_) | (refine CM.clo (he) ?_) | (refine CD.clo (he) ?_)) <;> ((try simp (implicitDefEqProofs := false)); (try simp (implicitDefEqProofs := false) (disch := first | assumption | (try simp only [lens]); omega -splitDisjunctions))))))
        clear he
        refine W_of fun Q hQ => ?_
        have main : ∀ k x, x + k = a → Q [(1, .ptr 0 0 0), (2, .ptr 1 0 0), (3, .list ((List.range a).map (nRow a j))), (4, .list ((List.range a).map (nRow a m))), (7, .ptr 2 0 0), (11, .int .i64 (bo : Int)), (12, .int .i64 (to : Int)), (13, .int .i64 (x : Int))] [.rows 2 [[.int .i64 (a : Int), .list (E.map relRow)]], .rows 4 [[.bool false, .bool false, .bool false, .bool false]], .rows 4 [[.bool true, .bool mo, .bool di, .bool (di && (List.range x).all fun x => (List.range a).any fun b => decide (j x b = to) && decide (m x b = bo))]]] := by
          intro k
          induction k with
          | zero =>
            intro x hx
            obtain rfl : x = a := by omega
            rw [← hcomp]
            apply hQ
            clear hQ
            (((try simp (implicitDefEqProofs := false)); (try simp (implicitDefEqProofs := false) (disch := first | assumption | (try simp only [lens]); omega -splitDisjunctions))); all_goals try (repeat' ((first | ((with_reducible first | refine And.intro ?_ ?_ | refine Exists.intro ?_ ?_); first | omega | (simp <;> omega)) | (with_reducible refine spl (And.intro ?_ ?_) <;> intro _)) <;> ((try simp (implicitDefEqProofs := false)); (try simp (implicitDefEqProofs := false) (disch := first | assumption | (try simp only [lens]); omega -splitDisjunctions))))))
          | succ k ih =>
            intro x hx
            have hxa : x < a := by omega
            have ih := ih (x + 1) (by omega)
            rw [List.range_succ, List.all_append, List.all_cons, List.all_nil, Bool.and_true, ← Bool.and_assoc] at ih
            clear hcomp
            generalize (di && (List.range x).all fun x => (List.range a).any fun b => decide (j x b = to) && decide (m x b = bo)) = r at *
            apply hQ
            clear hQ
            (((try simp (implicitDefEqProofs := false)); (try simp (implicitDefEqProofs := false) (disch := first | assumption | (try simp only [lens]); omega -splitDisjunctions))); all_goals try (repeat' ((first | ((with_reducible first | refine And.intro ?_ ?_ | refine Exists.intro ?_ ?_); first | omega | (simp <;> omega)) | (with_reducible refine spl (And.intro ?_ ?_) <;> intro _)) <;> ((try simp (implicitDefEqProofs := false)); (try simp (implicitDefEqProofs := false) (disch := first | assumption | (try simp only [lens]); omega -splitDisjunctions))))))
            refine W_of fun Q hQ => ?_
            have main : ∀ k b, b + k = a → Q [(1, .ptr 0 0 0), (2, .ptr 1 0 0), (3, .list ((List.range a).map (nRow a j))), (4, .list ((List.range a).map (nRow a m))), (7, .ptr 2 0 0), (11, .int .i64 (bo : Int)), (12, .int .i64 (to : Int)), (13, .int .i64 (x : Int)), (14, .bool ((List.range b).any fun b => decide (j x b = to) && decide (m x b = bo))), (15, .int .i64 (b : Int))] [.rows 2 [[.int .i64 (a : Int), .list (E.map relRow)]], .rows 4 [[.bool false, .bool false, .bool false, .bool false]], .rows 4 [[.bool true, .bool mo, .bool di, .bool r]]] := by
              intro k
              induction k with
              | zero =>
                intro b hb
                obtain rfl : b = a := by omega
                generalize (List.range b).any (fun b => decide (j x b = to) && decide (m x b = bo)) = r2 at *
                apply hQ
                clear hQ
                (((try simp (implicitDefEqProofs := false)); (try simp (implicitDefEqProofs := false) (disch := first | assumption | (try simp only [lens]); omega -splitDisjunctions))); all_goals try (repeat' ((first | ((with_reducible first | refine And.intro ?_ ?_ | refine Exists.intro ?_ ?_); first | omega | (simp <;> omega)) | (with_reducible refine spl (And.intro ?_ ?_) <;> intro _)) <;> ((try simp (implicitDefEqProofs := false)); (try simp (implicitDefEqProofs := false) (disch := first | assumption | (try simp only [lens]); omega -splitDisjunctions))))))
                all_goals (refine at2 ih ?_ ?_ <;> simp_all)
              | succ k ih =>
                intro b hb
                have hba : b < a := by omega
                have ih := ih (b + 1) (by omega)
                rw [List.range_succ, List.any_append, List.any_cons, List.any_nil, Bool.or_false] at ih
                generalize (List.range b).any (fun b => decide (j x b = to) && decide (m x b = bo)) = r2 at *
                have b1 := hj x b hxa hba
                have b2 := hm x b hxa hba
                apply hQ
                clear hQ
                have u1 : ((j x b : Nat) : Int) = (to : Int) ↔ j x b = to := by omega
                have u2 : ((m x b : Nat) : Int) = (bo : Int) ↔ m x b = bo := by omega
                (((try simp (implicitDefEqProofs := false) [hxa, hba, nRow, nCell, b1, b2]); (try simp (implicitDefEqProofs := false) (disch := first | assumption | (try simp only [lens]); omega -splitDisjunctions) [hxa, hba, nRow, nCell, b1, b2])); all_goals try (repeat' ((first | ((with_reducible first | refine And.intro ?_ ?_ | refine Exists.intro ?_ ?_); first | omega | (simp <;> omega)) | (with_reducible refine spl (And.intro ?_ ?_) <;> intro _)) <;> ((try simp (implicitDefEqProofs := false) [hxa, hba, nRow, nCell, b1, b2]); (try simp (implicitDefEqProofs := false) (disch := first | assumption | (try simp only [lens]); omega -splitDisjunctions) [hxa, hba, nRow, nCell, b1, b2])))))
                all_goals (refine at2 ih ?_ ?_ <;> simp_all)
            refine at2 (main _ 0 (Nat.zero_add _)) ?_ ?_ <;> simp
        refine at2 (main _ 0 (Nat.zero_add _)) ?_ ?_ <;> simp
      | succ k ih =>
        intro a ha
        have han : a < n := by omega
        have ih := ih (a + 1) (by omega)
        rw [p1_succ, p1_succ] at ih
        clear hmod hdis he hcomp
        generalize p1 n p a = x1 at *
        generalize p1 n q a = y1 at *
        apply hQ
        clear hQ
        (((try simp (implicitDefEqProofs := false)); (try simp (implicitDefEqProofs := false) (disch := first | assumption | (try simp only [lens]); omega -splitDisjunctions))); all_goals try (repeat' ((first | ((with_reducible first | refine And.intro ?_ ?_ | refine Exists.intro ?_ ?_); first | omega | (simp <;> omega)) | (with_reducible refine spl (And.intro ?_ ?_) <;> intro _)) <;> ((try simp (implicitDefEqProofs := false)); (try simp (implicitDefEqProofs := false) (disch := first | assumption | (try simp only [lens]); omega -splitDisjunctions))))))
        refine W_of fun Q hQ => ?_
        have main : ∀ k b, b + k = n → Q [(1, .ptr 0 0 0), (2, .ptr 1 0 0), (3, .list ((List.range n).map (nRow n (j)))), (4, .list ((List.range n).map (nRow n (m)))), (6, .list ((tabF n g).map tabRowF)), (7, .ptr 2 0 0), (8, .int .i64 (a : Int)), (9, .int .i64 (b : Int))] [.rows 2 [[.int .i64 (n : Int), .list (E.map relRow)]], .rows 4 [[.bool false, .bool false, .bool false, .bool false]], .rows 4 [[.bool true, .bool (x1 && p2 n p a b), .bool (y1 && p2 n q a b), .bool true]]] := by
          intro k
          induction k with
          | zero =>
            intro b hb
            obtain rfl : b = n := by omega
            apply hQ
            clear hQ hp hq
            generalize (x1 && p2 b p a b) = x2 at *
            generalize (y1 && p2 b q a b) = y2 at *
            (((try simp (implicitDefEqProofs := false)); (try simp (implicitDefEqProofs := false) (disch := first | assumption | (try simp only [lens]); omega -splitDisjunctions))); all_goals try (repeat' ((first | ((with_reducible first | refine And.intro ?_ ?_ | refine Exists.intro ?_ ?_); first | omega | (simp <;> omega)) | (with_reducible refine spl (And.intro ?_ ?_) <;> intro _)) <;> ((try simp (implicitDefEqProofs := false)); (try simp (implicitDefEqProofs := false) (disch := first | assumption | (try simp only [lens]); omega -splitDisjunctions))))))
            all_goals first | exact ih | (refine at2 ih ?_ ?_ <;> simp; done) | (exfalso; first | omega | (simp_all; done) | (simp_all; omega))
          | succ k ih =>
            intro b hb
            have hbn : b < n := by omega
            have ih := ih (b + 1) (by omega)
            rw [p2_succ, p2_succ, ← Bool.and_assoc, ← Bool.and_assoc] at ih
            generalize (x1 && p2 n p a b) = x2 at *
            generalize (y1 && p2 n q a b) = y2 at *
            apply hQ
            clear hQ
            (((try simp (implicitDefEqProofs := false)); (try simp (implicitDefEqProofs := false) (disch := first | assumption | (try simp only [lens]); omega -splitDisjunctions))); all_goals try (repeat' ((first | ((with_reducible first | refine And.intro ?_ ?_ | refine Exists.intro ?_ ?_); first | omega | (simp <;> omega)) | (with_reducible refine spl (And.intro ?_ ?_) <;> intro _)) <;> ((try simp (implicitDefEqProofs := false)); (try simp (implicitDefEqProofs := false) (disch := first | assumption | (try simp only [lens]); omega -splitDisjunctions))))))
            refine W_of fun Q hQ => ?_
            have main : ∀ k c, c + k = n → Q [(1, .ptr 0 0 0), (2, .ptr 1 0 0), (3, .list ((List.range n).map (nRow n (j)))), (4, .list ((List.range n).map (nRow n (m)))), (6, .list ((tabF n g).map tabRowF)), (7, .ptr 2 0 0), (8, .int .i64 (a : Int)), (9, .int .i64 (b : Int)), (10, .int .i64 (c : Int))] [.rows 2 [[.int .i64 (n : Int), .list (E.map relRow)]], .rows 4 [[.bool false, .bool false, .bool false, .bool false]], .rows 4 [[.bool true, .bool (x2 && p3 p a b c), .bool (y2 && p3 q a b c), .bool true]]] := by
              intro k
              induction k with
              | zero =>
                intro c hc
                obtain rfl : c = n := by omega
                apply hQ
                clear hQ hp hq
                generalize (x2 && p3 p a b c) = x3 at *
                generalize (y2 && p3 q a b c) = y3 at *
                (((try simp (implicitDefEqProofs := false)); (try simp (implicitDefEqProofs := false) (disch := first | assumption | (try simp only [lens]); omega -splitDisjunctions))); all_goals try (repeat' ((first | ((with_reducible first | refine And.intro ?_ ?_ | refine Exists.intro ?_ ?_); first | omega | (simp <;> omega)) | (with_reducible refine spl (And.intro ?_ ?_) <;> intro _)) <;> ((try simp (implicitDefEqProofs := false)); (try simp (implicitDefEqProofs := false) (disch := first | assumption | (try simp only [lens]); omega -splitDisjunctions))))))
                all_goals first | exact ih | (refine at2 ih ?_ ?_ <;> simp; done) | (exfalso; first | omega | (simp_all; done) | (simp_all; omega))
              | succ k ih =>
                intro c hc
                have hcn : c < n := by omega
                have ih := ih (c + 1) (by omega)
                rw [p3_succ, p3_succ, ← Bool.and_assoc, ← Bool.and_assoc] at ih
                generalize (x2 && p3 p a b c) = x3 at *
                generalize (y2 && p3 q a b c) = y3 at *
                have hpp := hp a b c
                have hqq := hq a b c
                have b1 := hm b c hbn hcn
                have b2 := hj a b han hbn
                have b3 := hj b c hbn hcn
                have b4 := hm a b han hbn
                have b5 := hm a c han hcn
                clear hp hq
                apply hQ
                clear hQ
                rw [hpp, hqq] at ih
                clear hpp hqq
                cases hg : g a c <;> by_cases e1 : j a (m b c) = m c (j a b) <;> by_cases e2 : m a (j b c) = j (m a b) (m a c)
                all_goals (simp only [hg, e1, e2, decide_true, decide_false, Bool.not_true, Bool.not_false, Bool.false_or, Bool.true_or, Bool.and_true, Bool.and_false] at ih)
                all_goals ((((try simp (implicitDefEqProofs := false) [han, hbn, hcn, tabRowF, tabF_get, rowF_get, nRow, nCell, hg, b1, b2, b3, b4, b5, e1, e2]); (try simp (implicitDefEqProofs := false) (disch := first | assumption | (try simp only [lens]); omega -splitDisjunctions) [han, hbn, hcn, tabRowF, tabF_get, rowF_get, nRow, nCell, hg, b1, b2, b3, b4, b5, e1, e2])); all_goals try (repeat' ((first | ((with_reducible first | refine And.intro ?_ ?_ | refine Exists.intro ?_ ?_); first | omega | (simp <;> omega)) | (with_reducible refine spl (And.intro ?_ ?_) <;> intro _)) <;> ((try simp (implicitDefEqProofs := false) [han, hbn, hcn, tabRowF, tabF_get, rowF_get, nRow, nCell, hg, b1, b2, b3, b4, b5, e1, e2]); (try simp (implicitDefEqProofs := false) (disch := first | assumption | (try simp only [lens]); omega -splitDisjunctions) [han, hbn, hcn, tabRowF, tabF_get, rowF_get, nRow, nCell, hg, b1, b2, b3, b4, b5, e1, e2]))))))
                all_goals first | exact ih | (refine at2 ih ?_ ?_ <;> simp [nRow, nCell]; done) | (exfalso; first | omega | (simp_all; done) | (simp_all; omega))
            refine at2 (main _ 0 (Nat.zero_add _)) ?_ ?_ <;> simp [p3]
        refine at2 (main _ 0 (Nat.zero_add _)) ?_ ?_ <;> simp [p2]
    refine at2 (main _ 0 (Nat.zero_add _)) ?_ ?_ <;> simp [p1]
end Go.Proofs.Ythnobaacfjihcaa
