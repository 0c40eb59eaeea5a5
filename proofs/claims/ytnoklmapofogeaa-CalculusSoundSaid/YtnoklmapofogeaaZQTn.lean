/-
  formula: NamesOf; sequentref: NamesIn.
-/
import Derived.Test.YtnoklmapofogeaaZNmP
import Derived.Test.YtnoklmapofogeaaZQRF
import Derived.Test.YtnoklmapofogeaaZQTh
namespace Go.Proofs.Ytnoklmapofogeaa
open Go Go.Pv
set_option linter.unusedVariables false
set_option linter.unusedSimpArgs false
set_option maxRecDepth 100000
set_option maxHeartbeats 4000000

/-- the names of nodes -/
def varsL (l : List Fm) : List ByteArray := (l.filter fun x => decide (x.kind = 1)).map Fm.name
theorem varsL_append (a b : List Fm) : varsL (a ++ b) = varsL a ++ varsL b := by simp [varsL]
theorem varsL_le (l : List Fm) : (varsL l).length ≤ l.length := by
  unfold varsL; rw [List.length_map]; exact List.length_filter_le _ _
theorem nodesGo_len (M : Nat) : ∀ (n : Nat) (st : List Fm), (nodesGo M n st).length ≤ n
  | 0, st => by simp [nodesGo]
  | n + 1, [] => by simp [nodesGo]
  | n + 1, x :: r => by rw [nodesGo_succ]; have := nodesGo_len M n (x.kids.take M ++ r); simp; omega
theorem less_eq (a b : ByteArray) : Op.bytesLess a.toList b.toList = decide (toL a < toL b) := by
  rw [Go.Proofs.bytesLess_eq, ByteArray.toList_eq, ByteArray.toList_eq]; rfl
/-- the names of formulas, by the document's walk -/
def varsW (l : List Fm) : List ByteArray := varsL (l.flatMap fun f => walkL f 100000)
theorem varsW_snoc (l : List Fm) (f : Fm) : varsW (l ++ [f]) = varsW l ++ varsL (walkL f 100000) := by simp [varsW, varsL_append]
theorem varsW_len : ∀ (l : List Fm), (varsW l).length ≤ 100001 * l.length
  | [] => by simp [varsW, varsL]
  | f :: r => by
    have h1 := varsW_len r
    have h2 := varsL_le (walkL f 100000)
    have h3 := (walk_len f 100000 (by decide)).2
    have e : varsW (f :: r) = varsL (walkL f 100000) ++ varsW r := by simp [varsW, varsL_append]
    rw [e, List.length_append, List.length_cons]; omega
def x17_T4 : XC := .seq (.reg [⟨some 72,.move (.tmp 3),none⟩,⟨some 2,.assign (.tmp 72),none⟩]) (.ret)
def x17_T3 : XC := .drawn 13 [⟨some 58,.move (.tmp 3),none⟩,⟨some 59,.move (.tmp 7),none⟩,⟨some 60,.slice 35 (.tmp 58) none (some (.tmp 59)) none,none⟩,⟨some 61,.move (.tmp 5),none⟩,⟨some 62,.move (.tmp 6),none⟩,⟨some 63,.indexAddr 22 (.tmp 61) (.tmp 62),none⟩,⟨some 64,.fieldAddr 24 (.tmp 63) 1,none⟩,⟨some 65,.load 9 (.tmp 64),none⟩,⟨some 66,.buildSlice 35 1 #[(0,.tmp 65)],none⟩,⟨some 67,.move (.tmp 3),none⟩,⟨some 68,.move (.tmp 7),none⟩,⟨some 69,.slice 35 (.tmp 67) (some (.tmp 68)) none none,none⟩,⟨some 70,.call ⟨.builtin .append,#[.tmp 66,.tmp 69],#[35,35]⟩,none⟩,⟨some 71,.call ⟨.builtin .append,#[.tmp 60,.tmp 70],#[35,35]⟩,none⟩,⟨some 3,.assign (.tmp 71),none⟩]
def x17_L4 : XC := .seq (.seq (.drawn 11 [⟨some 40,.move (.tmp 7),none⟩,⟨some 41,.move (.tmp 3),none⟩,⟨some 42,.call ⟨.builtin .len,#[.tmp 41],#[35]⟩,none⟩,⟨some 43,.binOp .lss 3 (.tmp 40) (.tmp 42) 3,none⟩,⟨some 44,.move (.tmp 43),none⟩,⟨some 45,.move (.tmp 3),some (some 44,true)⟩,⟨some 46,.move (.tmp 7),some (some 44,true)⟩,⟨some 47,.indexAddr 35 (.tmp 45) (.tmp 46),some (some 44,true)⟩,⟨some 48,.load 9 (.tmp 47),some (some 44,true)⟩,⟨some 49,.move (.tmp 5),some (some 44,true)⟩,⟨some 50,.move (.tmp 6),some (some 44,true)⟩,⟨some 51,.indexAddr 22 (.tmp 49) (.tmp 50),some (some 44,true)⟩,⟨some 52,.fieldAddr 24 (.tmp 51) 1,some (some 44,true)⟩,⟨some 53,.load 9 (.tmp 52),some (some 44,true)⟩,⟨some 54,.binOp .lss 9 (.tmp 48) (.tmp 53) 9,some (some 44,true)⟩,⟨some 55,.pick (.tmp 44) (.tmp 54) (.const (.bool false)),none⟩]) (.cond (.tmp 55) (.skip) (.exit 4))) (.block 5 (.reg [⟨some 56,.move (.tmp 7),none⟩,⟨some 57,.binOp .add 3 (.tmp 56) (.const (.int .i64 1)) 3,none⟩,⟨some 7,.assign (.tmp 57),none⟩]))
def x17_L2 : XC := .seq (.seq (.reg [⟨some 19,.move (.tmp 6),none⟩,⟨some 20,.move (.tmp 5),none⟩,⟨some 21,.call ⟨.builtin .len,#[.tmp 20],#[22]⟩,none⟩,⟨some 22,.binOp .lss 3 (.tmp 19) (.tmp 21) 3,none⟩]) (.cond (.tmp 22) (.skip) (.exit 2))) (.seq (.block 3 (.seq (.seq (.reg [⟨some 25,.move (.tmp 5),none⟩,⟨some 26,.move (.tmp 6),none⟩,⟨some 27,.indexAddr 22 (.tmp 25) (.tmp 26),none⟩,⟨some 28,.fieldAddr 24 (.tmp 27) 0,none⟩,⟨some 29,.load 3 (.tmp 28),none⟩,⟨some 30,.binOp .neq 3 (.tmp 29) (.const (.int .i64 1)) 3,none⟩,⟨some 31,.move (.tmp 30),none⟩,⟨some 32,.move (.tmp 3),some (some 31,false)⟩,⟨some 33,.move (.tmp 5),some (some 31,false)⟩,⟨some 34,.move (.tmp 6),some (some 31,false)⟩,⟨some 35,.indexAddr 22 (.tmp 33) (.tmp 34),some (some 31,false)⟩,⟨some 36,.fieldAddr 24 (.tmp 35) 1,some (some 31,false)⟩,⟨some 37,.load 9 (.tmp 36),some (some 31,false)⟩,⟨some 38,.call ⟨.value (.func 59),#[.tmp 32,.tmp 37],#[35,9]⟩,some (some 31,false)⟩,⟨some 39,.pick (.tmp 31) (.const (.bool true)) (.tmp 38),none⟩]) (.cond (.tmp 39) (.exit 3) (.skip))) (.seq (.reg [⟨some 7,.assign (.const (.int .i64 0)),none⟩]) (.seq (.bloop 4 x17_L4) (x17_T3))))) (.reg [⟨some 23,.move (.tmp 6),none⟩,⟨some 24,.binOp .add 3 (.tmp 23) (.const (.int .i64 1)) 3,none⟩,⟨some 6,.assign (.tmp 24),none⟩]))
def x17_L0 : XC := .seq (.seq (.reg [⟨some 8,.move (.tmp 4),none⟩,⟨some 9,.move (.tmp 0),none⟩,⟨some 10,.call ⟨.builtin .len,#[.tmp 9],#[22]⟩,none⟩,⟨some 11,.binOp .lss 3 (.tmp 8) (.tmp 10) 3,none⟩]) (.cond (.tmp 11) (.skip) (.exit 0))) (.seq (.block 1 (.seq (.reg [⟨some 14,.move (.tmp 0),none⟩,⟨some 15,.move (.tmp 4),none⟩,⟨some 16,.indexAddr 22 (.tmp 14) (.tmp 15),none⟩,⟨some 17,.load 24 (.tmp 16),none⟩,⟨some 18,.call ⟨.value (.func 62),#[.tmp 17,.const (.int .i64 100000)],#[24,3]⟩,none⟩,⟨some 5,.assign (.tmp 18),none⟩]) (.seq (.reg [⟨some 6,.assign (.const (.int .i64 0)),none⟩]) (.bloop 2 x17_L2)))) (.reg [⟨some 12,.move (.tmp 4),none⟩,⟨some 13,.binOp .add 3 (.tmp 12) (.const (.int .i64 1)) 3,none⟩,⟨some 4,.assign (.tmp 13),none⟩]))
def x17 : XC := .seq (.reg [⟨some 2,.assign (.const (.slice none 0 0)),none⟩]) (.seq (.reg [⟨some 3,.assign (.const (.slice none 0 0)),none⟩]) (.seq (.seq (.reg [⟨some 4,.assign (.const (.int .i64 0)),none⟩]) (.bloop 0 x17_L0)) (x17_T4)))
@[simp] theorem x17_s {C : WC} {e : AE} {s : Store} {K : KS} : type_of% (@X_at C e s K _ _ x17_T4.eq_1) ∧ type_of% (@X_at C e s K _ _ x17_T3.eq_1) ∧ type_of% (@X_at C e s K _ _ x17_L4.eq_1) ∧ type_of% (@X_at C e s K _ _ x17_L2.eq_1) ∧ type_of% (@X_at C e s K _ _ x17_L0.eq_1) ∧ type_of% (@X_at C e s K _ _ x17.eq_1) := ⟨X_at x17_T4.eq_1, X_at x17_T3.eq_1, X_at x17_L4.eq_1, X_at x17_L2.eq_1, X_at x17_L0.eq_1, X_at x17.eq_1⟩
def an17 : Ann := ⟨[(11, .mix 14), (13, .tree (.op 0 (.op 1 (.op 2 (.op 3 (.op 4 (.op 5 (.op 6 (.op 7 (.op 9 (.op 10 (.op 11 (.op 8 (.ck 2 (.ck 11 (.op 12 (.ck 2 (.op 13 (.op 14 .fin)))))))))))))))))))], [(4, [(3, none, 1)], [0, 3, 4, 5, 6, 7], [0, 3, 4, 5, 6, 7]), (2, [(3, none, 1)], [0, 3, 4, 5, 6], [0, 3, 4]), (0, [(3, none, 1)], [0, 3, 4], [3])], []⟩
def cx17 (P : Program) (m : Nat) : WC := ⟨P, m, an17⟩
@[simp] theorem cx17_a {P : Program} {m : Nat} : (cx17 P m).P = P ∧ (cx17 P m).m = m ∧ (cx17 P m).A.clsOf 11 = .mix 14 ∧ (cx17 P m).A.clsOf 13 = .tree (.op 0 (.op 1 (.op 2 (.op 3 (.op 4 (.op 5 (.op 6 (.op 7 (.op 9 (.op 10 (.op 11 (.op 8 (.ck 2 (.ck 11 (.op 12 (.ck 2 (.op 13 (.op 14 .fin)))))))))))))))))) ∧ (cx17 P m).A.frzOf 11 = [] ∧ (cx17 P m).A.frzOf 13 = [] ∧ (cx17 P m).A.loopOf 4 = ([(3, none, 1)], [0, 3, 4, 5, 6, 7], [0, 3, 4, 5, 6, 7]) ∧ (cx17 P m).A.loopOf 2 = ([(3, none, 1)], [0, 3, 4, 5, 6], [0, 3, 4]) ∧ (cx17 P m).A.loopOf 0 = ([(3, none, 1)], [0, 3, 4], [3]) := ⟨rfl, rfl, rfl, rfl, rfl, rfl, rfl, rfl, rfl⟩
instance {P : Program} {m f : Nat} [h : EnT P f] : EnT (cx17 P m).P f := h
theorem chk17 : ∀ c, Try.f17.body = some c → chkC Try.f17.ntmps an17 c = true := by intro c h; obtain rfl := Option.some.inj h; decide +kernel
theorem op17 {args : List PV} {v : PV} (h : X (cx17 Try.prog 0) x17 (argsA 0 args) [] (.fin [.tmp 2] fun v1 s1 => deref s1 6 v1 = v)) (hl : args.length ≤ Try.f17.ntmps := by rw [Try.ntmps17]; simp) : CallOK Try.prog 17 args [] v [] :=
  callX (m := 0) (cx17 Try.prog 0) x17 rfl rfl (by kernel_rfl) Try.func17 rfl rfl hl mixed (chk17 _ rfl) (by rw [Try.results17]; exact h)

theorem NamesIn_ref (l : List Fm) (hl : l.length ≤ 100) : CallOK Try.prog 17 [.list (l.map frm)] [] (.list (((varsW l).foldl insR []).map strRow)) [] := by
  refine op17 ?_
  (((try simp (implicitDefEqProofs := false)); (try simp (implicitDefEqProofs := false) (disch := first | assumption | (try simp only [lens]); omega -splitDisjunctions))); all_goals try (repeat' ((first | ((with_reducible first | refine And.intro ?_ ?_ | refine Exists.intro ?_ ?_); first | omega | (simp <;> omega)) | (with_reducible refine spl (And.intro ?_ ?_) <;> intro _)) <;> ((try simp (implicitDefEqProofs := false)); (try simp (implicitDefEqProofs := false) (disch := first | assumption | (try simp only [lens]); omega -splitDisjunctions))))))
  refine W_of fun Q hQ => ?_
  have outer : ∀ r p, p + r = l.length → Q [(0, .list (l.map frm)), (3, .sl 0 0 ((varsW (l.take p)).foldl insR []).length), (4, .int .i64 (p : Int))] [.rows 1 (((varsW (l.take p)).foldl insR []).map strRow)] := by
   intro r
   induction r with
   | zero =>
    intro p hp
    obtain rfl : p = l.length := by omega
    rw [List.take_length]
    generalize (varsW l).foldl insR [] = A at *
    apply hQ
    clear hQ
    (((try simp (implicitDefEqProofs := false)); (try simp (implicitDefEqProofs := false) (disch := first | assumption | (try simp only [lens]); omega -splitDisjunctions))); all_goals try (repeat' ((first | ((with_reducible first | refine And.intro ?_ ?_ | refine Exists.intro ?_ ?_); first | omega | (simp <;> omega)) | (with_reducible refine spl (And.intro ?_ ?_) <;> intro _)) <;> ((try simp (implicitDefEqProofs := false)); (try simp (implicitDefEqProofs := false) (disch := first | assumption | (try simp only [lens]); omega -splitDisjunctions))))))
   | succ r ihr =>
    intro p hp
    have hpl : p < l.length := by omega
    have q1 := ihr (p + 1) (by omega)
    rw [take_snoc hpl, varsW_snoc, List.foldl_append] at q1
    have hw := walk_ref l[p] 100000 (by decide) (by decide) []
    have hwl := (walk_len l[p] 100000 (by decide)).2
    have hA0 := Nat.le_trans (ins_len (varsW (l.take p)) []) (by rw [List.length_nil, Nat.zero_add]; exact varsW_len _)
    rw [List.length_take] at hA0
    generalize (varsW (l.take p)).foldl insR [] = A0 at *
    generalize walkL l[p] 100000 = L at *
    apply hQ
    clear hQ
    (((try simp (implicitDefEqProofs := false) [hpl]); (try simp (implicitDefEqProofs := false) (disch := first | assumption | (try simp only [lens]); omega -splitDisjunctions) [hpl])); all_goals try (repeat' ((first | ((with_reducible first | refine And.intro ?_ ?_ | refine Exists.intro ?_ ?_); first | omega | (simp <;> omega)) | (with_reducible refine spl (And.intro ?_ ?_) <;> intro _) | (refine CL.clo (hw) ?_) | (refine CM.clo (hw) ?_) | (refine CD.clo (hw) ?_)) <;> ((try simp (implicitDefEqProofs := false) [hpl]); (try simp (implicitDefEqProofs := false) (disch := first | assumption | (try simp only [lens]); omega -splitDisjunctions) [hpl])))))
    refine W_of fun Q2 hQ2 => ?_
    have main : ∀ k i, i + k = L.length → Q2 [(0, .list (l.map frm)), (3, .sl 0 0 ((varsL (L.take i)).foldl insR A0).length), (4, .int .i64 (p : Int)), (5, .list (L.map frm)), (6, .int .i64 (i : Int))] [.rows 1 (((varsL (L.take i)).foldl insR A0).map strRow)] := by
      intro k
      induction k with
      | zero =>
        intro i hi
        obtain rfl : i = L.length := by omega
        rw [List.take_length]
        generalize (varsL L).foldl insR A0 = A at *
        apply hQ2
        clear hQ2 hw
        (((try simp (implicitDefEqProofs := false)); (try simp (implicitDefEqProofs := false) (disch := first | assumption | (try simp only [lens]); omega -splitDisjunctions))); all_goals try (repeat' ((first | ((with_reducible first | refine And.intro ?_ ?_ | refine Exists.intro ?_ ?_); first | omega | (simp <;> omega)) | (with_reducible refine spl (And.intro ?_ ?_) <;> intro _)) <;> ((try simp (implicitDefEqProofs := false)); (try simp (implicitDefEqProofs := false) (disch := first | assumption | (try simp only [lens]); omega -splitDisjunctions))))))
        all_goals first | exact q1 | (refine at2 q1 ?_ ?_ <;> simp; done) | (exfalso; first | omega | (simp_all; done) | (simp_all; omega))
      | succ k ih =>
        intro i hi
        have hiL : i < L.length := by omega
        have ih := ih (i + 1) (by omega)
        have hvi := varsL_le (L.take i)
        rw [List.length_take] at hvi
        rw [take_snoc hiL, varsL_append] at ih
        have hv1 : varsL [L[i]] = if L[i].kind = 1 then [L[i].name] else [] := by unfold varsL; rw [List.filter_cons, List.filter_nil]; split <;> simp_all
        rw [hv1, List.foldl_append] at ih
        have hAl := ins_len (varsL (L.take i)) A0
        clear q1 hw hv1
        generalize (varsL (L.take i)).foldl insR A0 = A at *
        have hAl : A.length ≤ 100001 * 101 := by omega
        have ht := HasText_ref A L[i].name
        apply hQ2
        clear hQ2
        by_cases hk : L[i].kind = 1
        · simp only [hk, if_true, List.foldl_cons, List.foldl_nil] at ih
          cases hb : memB L[i].name A
          · have hx : L[i].name ∉ A := fun h => by rw [memB_iff.2 h] at hb; cases hb
            rw [show insR A L[i].name = A.take (insAt A L[i].name) ++ L[i].name :: A.drop (insAt A L[i].name) from by unfold insR; rw [if_neg (fun h => hx (inB_iff.1 h))]] at ih
            rw [hb] at ht
            (((try simp (implicitDefEqProofs := false) [hiL, hk]); (try simp (implicitDefEqProofs := false) (disch := first | assumption | (try simp only [lens]); omega -splitDisjunctions) [hiL, hk])); all_goals try (repeat' ((first | ((with_reducible first | refine And.intro ?_ ?_ | refine Exists.intro ?_ ?_); first | omega | (simp <;> omega)) | (with_reducible refine spl (And.intro ?_ ?_) <;> intro _) | (refine CL.see (ht) ?_ ?_ ?_; (focus (first | (simp; done) | (simp [scn]; done))); (focus (simp [flats]; done))) | (refine CD.see (ht) ?_ ?_ ?_; (focus (first | (simp; done) | (simp [scn]; done))); (focus (simp [flats]; done)))) <;> ((try simp (implicitDefEqProofs := false) [hiL, hk]); (try simp (implicitDefEqProofs := false) (disch := first | assumption | (try simp only [lens]); omega -splitDisjunctions) [hiL, hk])))))
            have hz := insAt_le A L[i].name
            have hzl := insAt_lt A L[i].name
            have hza := insAt_at A L[i].name
            generalize insAt A L[i].name = z at *
            refine W_of fun Q3 hQ3 => ?_
            have main : ∀ k a, a + k = z → Q3 [(0, .list (l.map frm)), (3, .sl 0 0 A.length), (4, .int .i64 (p : Int)), (5, .list (L.map frm)), (6, .int .i64 (i : Int)), (7, .int .i64 (a : Int))] [.rows 1 (A.map strRow)] := by
              intro k
              induction k with
              | zero =>
                intro a ha
                obtain rfl : a = z := by omega
                apply hQ3
                clear hQ3 ht hzl
                by_cases hal : a < A.length
                · have hza := hza hal
                  have hlt : Op.bytesLess A[a].toList L[i].name.toList = false := by rw [less_eq]; simpa using hza
                  (((try simp (implicitDefEqProofs := false) [hiL, hal, hlt, strRow]); (try simp (implicitDefEqProofs := false) (disch := first | assumption | (try simp only [lens]); omega -splitDisjunctions) [hiL, hal, hlt, strRow])); all_goals try (repeat' ((first | ((with_reducible first | refine And.intro ?_ ?_ | refine Exists.intro ?_ ?_); first | omega | (simp <;> omega)) | (with_reducible refine spl (And.intro ?_ ?_) <;> intro _)) <;> ((try simp (implicitDefEqProofs := false) [hiL, hal, hlt, strRow]); (try simp (implicitDefEqProofs := false) (disch := first | assumption | (try simp only [lens]); omega -splitDisjunctions) [hiL, hal, hlt, strRow])))))
                  have e1 : List.take (A.length - a) (List.drop a (List.map strRow A)) = (A.drop a).map strRow := by rw [← List.map_drop, List.take_of_length_le (by simp)]
                  have e2 : List.take (1 + (A.length - a)) ([PV.str L[i].name] :: (A.drop a).map strRow) = [PV.str L[i].name] :: (A.drop a).map strRow := List.take_of_length_le (by simp; omega)
                  rw [e1, e2]
                  simp only [hz, if_true, TK_some, true_and]
                  refine ⟨⟨fun row hr => ?_, by omega⟩, by omega, ⟨fun row hr => ?_, by omega⟩, at2 ih ?_ ?_⟩
                  · obtain ⟨b, _, rfl⟩ := List.mem_map.1 hr; simp [strRow]
                  · rcases List.mem_cons.1 hr with rfl | hr
                    · simp
                    · obtain ⟨b, _, rfl⟩ := List.mem_map.1 hr; simp [strRow]
                  · simp; omega
                  · simp [strRow]
                · obtain rfl : a = A.length := by omega
                  rw [List.take_length, List.drop_length] at ih
                  (((try simp (implicitDefEqProofs := false) [hiL, hal]); (try simp (implicitDefEqProofs := false) (disch := first | assumption | (try simp only [lens]); omega -splitDisjunctions) [hiL, hal])); all_goals try (repeat' ((first | ((with_reducible first | refine And.intro ?_ ?_ | refine Exists.intro ?_ ?_); first | omega | (simp <;> omega)) | (with_reducible refine spl (And.intro ?_ ?_) <;> intro _)) <;> ((try simp (implicitDefEqProofs := false) [hiL, hal]); (try simp (implicitDefEqProofs := false) (disch := first | assumption | (try simp only [lens]); omega -splitDisjunctions) [hiL, hal])))))
                  all_goals first | exact ih | (refine at2 ih ?_ ?_ <;> simp [strRow]; done) | (exfalso; first | omega | (simp_all; done) | (simp_all; omega))
              | succ k ih3 =>
                intro a ha
                have ih3 := ih3 (a + 1) (by omega)
                obtain ⟨hal, hlt⟩ := hzl a (by omega)
                have hlt : Op.bytesLess A[a].toList L[i].name.toList = true := by rw [less_eq]; simpa using hlt
                apply hQ3
                clear hQ3 ht hzl hza ih
                (((try simp (implicitDefEqProofs := false) [hiL, hal, hlt, strRow]); (try simp (implicitDefEqProofs := false) (disch := first | assumption | (try simp only [lens]); omega -splitDisjunctions) [hiL, hal, hlt, strRow])); all_goals try (repeat' ((first | ((with_reducible first | refine And.intro ?_ ?_ | refine Exists.intro ?_ ?_); first | omega | (simp <;> omega)) | (with_reducible refine spl (And.intro ?_ ?_) <;> intro _)) <;> ((try simp (implicitDefEqProofs := false) [hiL, hal, hlt, strRow]); (try simp (implicitDefEqProofs := false) (disch := first | assumption | (try simp only [lens]); omega -splitDisjunctions) [hiL, hal, hlt, strRow])))))
                all_goals first | exact ih3 | (refine at2 ih3 ?_ ?_ <;> simp [strRow]; done) | (exfalso; first | omega | (simp_all; done) | (simp_all; omega))
            refine at2 (main _ 0 (Nat.zero_add _)) ?_ ?_ <;> simp
          · have hx : L[i].name ∈ A := memB_iff.1 hb
            rw [show insR A L[i].name = A from by unfold insR; rw [if_pos (inB_iff.2 hx)]] at ih
            rw [hb] at ht
            (((try simp (implicitDefEqProofs := false) [hiL, hk]); (try simp (implicitDefEqProofs := false) (disch := first | assumption | (try simp only [lens]); omega -splitDisjunctions) [hiL, hk])); all_goals try (repeat' ((first | ((with_reducible first | refine And.intro ?_ ?_ | refine Exists.intro ?_ ?_); first | omega | (simp <;> omega)) | (with_reducible refine spl (And.intro ?_ ?_) <;> intro _) | (refine CL.see (ht) ?_ ?_ ?_; (focus (first | (simp; done) | (simp [scn]; done))); (focus (simp [flats]; done))) | (refine CD.see (ht) ?_ ?_ ?_; (focus (first | (simp; done) | (simp [scn]; done))); (focus (simp [flats]; done)))) <;> ((try simp (implicitDefEqProofs := false) [hiL, hk]); (try simp (implicitDefEqProofs := false) (disch := first | assumption | (try simp only [lens]); omega -splitDisjunctions) [hiL, hk])))))
            all_goals first | exact ih | (refine at2 ih ?_ ?_ <;> simp; done) | (exfalso; first | omega | (simp_all; done) | (simp_all; omega))
        · simp only [hk, if_false, List.foldl_nil] at ih
          (((try simp (implicitDefEqProofs := false) [hiL, hk]); (try simp (implicitDefEqProofs := false) (disch := first | assumption | (try simp only [lens]); omega -splitDisjunctions) [hiL, hk])); all_goals try (repeat' ((first | ((with_reducible first | refine And.intro ?_ ?_ | refine Exists.intro ?_ ?_); first | omega | (simp <;> omega)) | (with_reducible refine spl (And.intro ?_ ?_) <;> intro _)) <;> ((try simp (implicitDefEqProofs := false) [hiL, hk]); (try simp (implicitDefEqProofs := false) (disch := first | assumption | (try simp only [lens]); omega -splitDisjunctions) [hiL, hk])))))
          all_goals first | exact ih | (refine at2 ih ?_ ?_ <;> simp [strRow]; done) | (exfalso; first | omega | (simp_all; done) | (simp_all; omega))
    refine at2 (main _ 0 (Nat.zero_add _)) ?_ ?_ <;> simp [varsL]
  refine at2 (outer _ 0 (Nat.zero_add _)) ?_ ?_ <;> simp [varsW, varsL]
end Go.Proofs.Ytnoklmapofogeaa
