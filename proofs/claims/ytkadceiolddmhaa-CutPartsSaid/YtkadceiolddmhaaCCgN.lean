import Derived.Test.YtkadceiolddmhaaCCcZ
import Derived.Test.YtkadceiolddmhaaCCcB
import Derived.Test.YtkadceiolddmhaaCPvOz
set_option linter.unusedVariables false
set_option linter.unusedSimpArgs false
set_option maxRecDepth 100000
set_option maxHeartbeats 4000000
namespace Go.Proofs.Ytkadceiolddmhaa
open Go Go.Pv
noncomputable def addE (had : List Fm) (x : Fm) : List Fm := if (had.any fun y => sameB y x) = true then had else had ++ [x]
theorem addE_len : ∀ (l had : List Fm), (l.foldl addE had).length ≤ had.length + l.length
 | [], had => by simp
 | x :: r, had => by
  rw [List.foldl_cons]
  have := addE_len r (addE had x)
  have h2 : (addE had x).length ≤ had.length + 1 := by unfold addE; split <;> simp
  simp only [List.length_cons]; omega
theorem any_same {had : List Fm} {x : Fm} : (had.any fun y => sameB y x) = true ↔ x ∈ had := by
 rw [List.any_eq_true]
 exact ⟨fun ⟨y, h, e⟩ => (sameB_iff.1 e) ▸ h, fun h => ⟨x, h, sameB_iff.2 rfl⟩⟩
theorem addE_mem {x : Fm} : ∀ (l had : List Fm), x ∈ l.foldl addE had ↔ x ∈ had ∨ x ∈ l
 | [], had => by simp
 | y :: r, had => by
  rw [List.foldl_cons, addE_mem r]
  have : x ∈ addE had y ↔ x ∈ had ∨ x = y := by
   unfold addE
   split
   ·rename_i h
    rw [any_same] at h
    exact ⟨.inl, fun g => g.elim id fun e => e ▸ h⟩
   ·simp
  rw [this, List.mem_cons, or_assoc]
def x90_T2 : XC := .seq (.reg [⟨some 38,.move (.tmp 3),none⟩,⟨some 2,.assign (.tmp 38),none⟩]) .ret
def x90_L2 : XC := .seq (.seq (.reg [⟨some 18,.move (.tmp 6),none⟩,⟨some 19,.move (.tmp 5),none⟩,⟨some 20,.call ⟨.builtin .len,#[.tmp 19],#[57]⟩,none⟩,⟨some 21,.binOp .lss 3 (.tmp 18) (.tmp 20) 3,none⟩]) (.cond (.tmp 21) .skip (.exit 2))) (.seq (.block 3 (.seq (.reg [⟨some 24,.move (.tmp 3),none⟩,⟨some 25,.move (.tmp 5),none⟩,⟨some 26,.move (.tmp 6),none⟩,⟨some 27,.indexAddr 57 (.tmp 25) (.tmp 26),none⟩,⟨some 28,.load 59 (.tmp 27),none⟩,⟨some 29,.call ⟨.value (.func 91),#[.tmp 24,.tmp 28],#[57,59]⟩,none⟩,⟨some 30,.unOp .not 4 (.tmp 29),none⟩]) (.cond (.tmp 30) (.reg [⟨some 31,.move (.tmp 3),none⟩,⟨some 32,.move (.tmp 5),none⟩,⟨some 33,.move (.tmp 6),none⟩,⟨some 34,.indexAddr 57 (.tmp 32) (.tmp 33),none⟩,⟨some 35,.load 59 (.tmp 34),none⟩,⟨some 36,.buildSlice 57 1 #[(0,.tmp 35)],none⟩,⟨some 37,.call ⟨.builtin .append,#[.tmp 31,.tmp 36],#[57,57]⟩,none⟩,⟨some 3,.assign (.tmp 37),none⟩]) .skip))) (.reg [⟨some 22,.move (.tmp 6),none⟩,⟨some 23,.binOp .add 3 (.tmp 22) (.const (.int .i64 1)) 3,none⟩,⟨some 6,.assign (.tmp 23),none⟩]))
def x90_L0 : XC := .seq (.seq (.reg [⟨some 7,.move (.tmp 4),none⟩,⟨some 8,.move (.tmp 0),none⟩,⟨some 9,.call ⟨.builtin .len,#[.tmp 8],#[57]⟩,none⟩,⟨some 10,.binOp .lss 3 (.tmp 7) (.tmp 9) 3,none⟩]) (.cond (.tmp 10) .skip (.exit 0))) (.seq (.block 1 (.seq (.reg [⟨some 13,.move (.tmp 0),none⟩,⟨some 14,.move (.tmp 4),none⟩,⟨some 15,.indexAddr 57 (.tmp 13) (.tmp 14),none⟩,⟨some 16,.load 59 (.tmp 15),none⟩,⟨some 17,.call ⟨.value (.func 40),#[.tmp 16,.const (.int .i64 100000)],#[59,3]⟩,none⟩,⟨some 5,.assign (.tmp 17),none⟩]) (.seq (.reg [⟨some 6,.assign (.const (.int .i64 0)),none⟩]) (.bloop 2 x90_L2)))) (.reg [⟨some 11,.move (.tmp 4),none⟩,⟨some 12,.binOp .add 3 (.tmp 11) (.const (.int .i64 1)) 3,none⟩,⟨some 4,.assign (.tmp 12),none⟩]))
def x90 : XC := .seq (.reg [⟨some 2,.assign (.const (.slice none 0 0)),none⟩]) (.seq (.reg [⟨some 3,.assign (.const (.slice none 0 0)),none⟩]) (.seq (.seq (.reg [⟨some 4,.assign (.const (.int .i64 0)),none⟩]) (.bloop 0 x90_L0)) (x90_T2)))
@[simp] theorem x90_s {C e s K} : type_of% (@X_at C e s K _ _ x90_T2.eq_1) ∧ type_of% (@X_at C e s K _ _ x90_L2.eq_1) ∧ type_of% (@X_at C e s K _ _ x90_L0.eq_1) ∧ type_of% (@X_at C e s K _ _ x90.eq_1) := ⟨X_at x90_T2.eq_1, X_at x90_L2.eq_1, X_at x90_L0.eq_1, X_at x90.eq_1⟩
def an90 : Ann := ⟨[], [(2, [(3, none, 3)], [0, 3, 4, 5, 6], [0, 3, 4]), (0, [(3, none, 3)], [0, 3, 4], [3])], []⟩
@[simp] theorem an90_a : an90.loopOf 2 = ([(3, none, 3)], [0, 3, 4, 5, 6], [0, 3, 4]) ∧ an90.loopOf 0 = ([(3, none, 3)], [0, 3, 4], [3]) := ⟨rfl, rfl⟩
theorem fi90 : FI Try.prog 90 (cxA an90) x90 [.tmp 2] Try.f90 := fiA Try.func90 mixed
theorem PartsIn_own (l : List Fm) (hn : l.length ≤ 100) (hl : ∀ f ∈ l, (pre f).length ≤ 200) : CallOK Try.prog 90 [.sl 0 0 l.length] [.rows 3 (l.map frm)] (.list (((pres l).foldl addE []).map frm)) [.rows 3 (l.map frm)] := by
 refine fi90.oz ?_
 ((refine Sg.h ?_); try repeat' ((first | (with_reducible first | refine brA ?_ | refine brE fun _ => ?_ | (refine spl ⟨?_, ?_⟩ <;> intro _))) <;> ((try simp -implicitDefEqProofs); (try simp -implicitDefEqProofs (disch := first | assumption | (try simp only [lens]); omega -splitDisjunctions)))))
 refine W_of fun Q hQ => ?_
 have main : ∀ r i (had : List Fm), i + r = l.length → (pres (l.drop i)).foldl addE had = (pres l).foldl addE [] → had.length ≤ 200 * i → Q [(0, .sl 0 0 l.length), (3, .sl 1 0 had.length), (4, .int .i64 (i : Int))] [.rows 3 (l.map frm), .rows 3 (had.map frm)] := by
  intro r
  induction r with
  | zero =>
   intro i had hi he hh
   rw [List.drop_of_length_le (by omega), pres_nil] at he
   simp only [List.foldl_nil] at he
   apply hQ
   clear hQ
   rw [← he]
   clear he
   ((refine Sg.h ?_); try repeat' ((first | (with_reducible first | refine brA ?_ | refine brE fun _ => ?_ | (refine spl ⟨?_, ?_⟩ <;> intro _))) <;> ((try simp -implicitDefEqProofs); (try simp -implicitDefEqProofs (disch := first | assumption | (try simp only [lens]); omega -splitDisjunctions)))))
  | succ r ih =>
   intro i had hi he hh
   have hil : i < l.length := by omega
   have hw := walk_ref l[i] 100000 (by omega) (by omega) []
   have hpl := hl _ (List.getElem_mem hil)
   have hwl : walkL l[i] 100000 = pre l[i] := by
    rw [show (100000 : Int) = ((100000 : Nat) : Int) from rfl, walk_take, List.take_of_length_le (by omega)]
   rw [hwl] at hw
   rw [List.drop_eq_getElem_cons hil, pres_cons, List.foldl_append] at he
   have hal := addE_len (pre l[i]) had
   have ih := ih (i + 1) ((pre l[i]).foldl addE had) (by omega) he (by omega)
   clear he hwl
   generalize pre l[i] = L at *
   apply hQ
   clear hQ
   ((refine Sg.h ?_); try repeat' ((first | (with_reducible first | refine brA ?_ | refine brE fun _ => ?_ | (refine spl ⟨?_, ?_⟩ <;> intro _)) | refine clo hw ?_) <;> ((try simp -implicitDefEqProofs [hil]); (try simp -implicitDefEqProofs (disch := first | assumption | (try simp only [lens]); omega -splitDisjunctions) [hil]))))
   refine W_of fun Q2 hQ2 => ?_
   have main : ∀ n k (h2 : List Fm), k + n = L.length → (L.drop k).foldl addE h2 = L.foldl addE had → h2.length ≤ had.length + k → Q2 [(0, .sl 0 0 l.length), (3, .sl 1 0 h2.length), (4, .int .i64 (i : Int)), (5, .list (L.map frm)), (6, .int .i64 (k : Int))] [.rows 3 (l.map frm), .rows 3 (h2.map frm)] := by
    intro n
    induction n with
    | zero =>
     intro k h2 hk he hh2
     rw [List.drop_of_length_le (by omega)] at he
     simp only [List.foldl_nil] at he
     rw [← he] at ih
     clear he
     apply hQ2
     clear hQ2
     ((refine Sg.h ?_); try repeat' ((first | (with_reducible first | refine brA ?_ | refine brE fun _ => ?_ | (refine spl ⟨?_, ?_⟩ <;> intro _))) <;> ((try simp -implicitDefEqProofs); (try simp -implicitDefEqProofs (disch := first | assumption | (try simp only [lens]); omega -splitDisjunctions)))))
     all_goals first | exact ih | (refine at2 ih ?_ ?_ <;> simp; done) | (exfalso; first | omega | (simp_all; done) | (simp_all; omega))
    | succ n ihn =>
     intro k h2 hk he hh2
     have hkl : k < L.length := by omega
     rw [List.drop_eq_getElem_cons hkl, List.foldl_cons] at he
     have hl2 : (addE h2 L[k]).length ≤ h2.length + 1 := by unfold addE; split <;> simp
     have ihn := ihn (k + 1) (addE h2 L[k]) (by omega) he (by omega)
     have hh := Has_ref h2 L[k]
     unfold addE at ihn
     clear he ih
     generalize hB : (h2.any fun y => sameB y L[k]) = B at hh ihn
     apply hQ2
     clear hQ2
     cases B with
     | true =>
      rw [if_pos rfl] at ihn
      ((refine Sg.h ?_); try repeat' ((first | (with_reducible first | refine brA ?_ | refine brE fun _ => ?_ | (refine spl ⟨?_, ?_⟩ <;> intro _)) | (refine CL.see (hh) ?_ ?_ ?_; (focus (first | (simp; done) | (simp [scn]; done))); (focus (simp [flats]; done))) | (refine CD.see (hh) ?_ ?_ ?_; (focus (first | (simp; done) | (simp [scn]; done))); (focus (simp [flats]; done)))) <;> ((try simp -implicitDefEqProofs [hkl]); (try simp -implicitDefEqProofs (disch := first | assumption | (try simp only [lens]); omega -splitDisjunctions) [hkl]))))
      all_goals first | exact ihn | (refine at2 ihn ?_ ?_ <;> simp; done) | (exfalso; first | omega | (simp_all; done) | (simp_all; omega))
     | false =>
      rw [if_neg (by simp)] at ihn
      ((refine Sg.h ?_); try repeat' ((first | (with_reducible first | refine brA ?_ | refine brE fun _ => ?_ | (refine spl ⟨?_, ?_⟩ <;> intro _)) | (refine CL.see (hh) ?_ ?_ ?_; (focus (first | (simp; done) | (simp [scn]; done))); (focus (simp [flats]; done))) | (refine CD.see (hh) ?_ ?_ ?_; (focus (first | (simp; done) | (simp [scn]; done))); (focus (simp [flats]; done)))) <;> ((try simp -implicitDefEqProofs [hkl]); (try simp -implicitDefEqProofs (disch := first | assumption | (try simp only [lens]); omega -splitDisjunctions) [hkl]))))
      all_goals first | exact ihn | (refine at2 ihn ?_ ?_ <;> simp; done) | (exfalso; first | omega | (simp_all; done) | (simp_all; omega))
   all_goals first | exact main _ 0 had (Nat.zero_add _) rfl (by omega) | (refine at2 main _ 0 had (Nat.zero_add _) rfl (by omega) ?_ ?_ <;> simp; done) | (exfalso; first | omega | (simp_all; done) | (simp_all; omega))
 all_goals first | exact main _ 0 [] (Nat.zero_add _) rfl (by simp) | (refine at2 main _ 0 [] (Nat.zero_add _) rfl (by simp) ?_ ?_ <;> simp; done) | (exfalso; first | omega | (simp_all; done) | (simp_all; omega))
theorem CD.sub {C : WC} {d : Option Tmp} {fid : FuncId} {vs : List PV} {e : AE} {s s2 : Store} {K : KS} {v : PV} {ops : List LOp} [EnT C.P fid] (ρ : List Nat) (hc : CallOK C.P fid (vs.map (renN ρ 4)) (liveS ρ s ρ) v s2) (hk : O C .dr ops (updA e d (upN (ρ ++ List.range' s.length (s2.length - ρ.length)) 4 v)) (backS ρ s s2) K)
  (hnd : ρ.Nodup := by simp) (hin : ∀ i ∈ ρ, i < s.length := by simp) (hlen : ρ.length ≤ s2.length := by simp) : CD C d (some (fid, vs)) ops e s K := by
 refine ⟨fid, vs, _, _, rfl, EnT.h, CallOK.sub ρ hnd hin hlen ?_, hk⟩
 have : ∀ L : List Nat, liveS ρ s L = L.map fun i => renObj ρ ((s[i]?).getD .dead) := by
  intro L; induction L with
  | nil => rfl
  | cons i r ih => rw [liveS, ih]; rfl
 rwa [← this]
theorem fine_root {u : Bool} {p : Pf} (h : Fine u p) : (sequentF p.l p.r).1 = 0 := by cases h; assumption
def x41_L2 : XC := .seq (.seq (.reg [⟨some 57,.move (.tmp 8),none⟩,⟨some 58,.move (.tmp 7),none⟩,⟨some 59,.call ⟨.builtin .len,#[.tmp 58],#[57]⟩,none⟩,⟨some 60,.binOp .lss 3 (.tmp 57) (.tmp 59) 3,none⟩]) (.cond (.tmp 60) .skip (.exit 2))) (.seq (.block 3 (.seq (.reg [⟨some 63,.move (.tmp 3),none⟩,⟨some 64,.move (.tmp 7),none⟩,⟨some 65,.move (.tmp 8),none⟩,⟨some 66,.indexAddr 57 (.tmp 64) (.tmp 65),none⟩,⟨some 67,.load 59 (.tmp 66),none⟩,⟨some 68,.call ⟨.value (.func 91),#[.tmp 63,.tmp 67],#[57,59]⟩,none⟩,⟨some 69,.unOp .not 4 (.tmp 68),none⟩]) (.cond (.tmp 69) (.seq (.reg [⟨some 2,.assign (.const (.bool false)),none⟩]) .ret) .skip))) (.reg [⟨some 61,.move (.tmp 8),none⟩,⟨some 62,.binOp .add 3 (.tmp 61) (.const (.int .i64 1)) 3,none⟩,⟨some 8,.assign (.tmp 62),none⟩]))
def x41_L0 : XC := .seq (.seq (.reg [⟨some 23,.move (.tmp 6),none⟩,⟨some 24,.move (.tmp 4),none⟩,⟨some 25,.call ⟨.builtin .len,#[.tmp 24],#[62]⟩,none⟩,⟨some 26,.binOp .lss 3 (.tmp 23) (.tmp 25) 3,none⟩]) (.cond (.tmp 26) .skip (.exit 0))) (.seq (.block 1 (.seq (.drawn 6 [⟨some 29,.move (.tmp 4),none⟩,⟨some 30,.move (.tmp 6),none⟩,⟨some 31,.indexAddr 62 (.tmp 29) (.tmp 30),none⟩,⟨some 32,.fieldAddr 64 (.tmp 31) 2,none⟩,⟨some 33,.fieldAddr 61 (.tmp 32) 0,none⟩,⟨some 34,.load 57 (.tmp 33),none⟩,⟨some 35,.call ⟨.builtin .append,#[.const (.slice none 0 0),.tmp 34],#[57,57]⟩,none⟩,⟨some 36,.move (.tmp 4),none⟩,⟨some 37,.move (.tmp 6),none⟩,⟨some 38,.indexAddr 62 (.tmp 36) (.tmp 37),none⟩,⟨some 39,.fieldAddr 64 (.tmp 38) 2,none⟩,⟨some 40,.fieldAddr 61 (.tmp 39) 1,none⟩,⟨some 41,.load 57 (.tmp 40),none⟩,⟨some 42,.call ⟨.builtin .append,#[.tmp 35,.tmp 41],#[57,57]⟩,none⟩,⟨some 7,.assign (.tmp 42),none⟩]) (.seq (.seq (.reg [⟨some 43,.move (.tmp 4),none⟩,⟨some 44,.move (.tmp 6),none⟩,⟨some 45,.indexAddr 62 (.tmp 43) (.tmp 44),none⟩,⟨some 46,.fieldAddr 64 (.tmp 45) 0,none⟩,⟨some 47,.load 9 (.tmp 46),none⟩,⟨some 48,.binOp .neq 9 (.tmp 47) (.const (.string ⟨#[119,101,97,107]⟩)) 9,none⟩]) (.cond (.tmp 48) (.reg [⟨some 49,.move (.tmp 7),none⟩,⟨some 50,.move (.tmp 4),none⟩,⟨some 51,.move (.tmp 6),none⟩,⟨some 52,.indexAddr 62 (.tmp 50) (.tmp 51),none⟩,⟨some 53,.fieldAddr 64 (.tmp 52) 1,none⟩,⟨some 54,.load 59 (.tmp 53),none⟩,⟨some 55,.buildSlice 57 1 #[(0,.tmp 54)],none⟩,⟨some 56,.call ⟨.builtin .append,#[.tmp 49,.tmp 55],#[57,57]⟩,none⟩,⟨some 7,.assign (.tmp 56),none⟩]) .skip)) (.seq (.reg [⟨some 8,.assign (.const (.int .i64 0)),none⟩]) (.bloop 2 x41_L2))))) (.reg [⟨some 27,.move (.tmp 6),none⟩,⟨some 28,.binOp .add 3 (.tmp 27) (.const (.int .i64 1)) 3,none⟩,⟨some 6,.assign (.tmp 28),none⟩]))
def x41 : XC := .seq (.reg [⟨some 1,.box 64 (.tmp 0),none⟩,⟨some 2,.assign (.const (.bool false)),none⟩]) (.seq (.drawn 1 [⟨some 9,.fieldAddr 64 (.tmp 1) 2,none⟩,⟨some 10,.fieldAddr 61 (.tmp 9) 0,none⟩,⟨some 11,.load 57 (.tmp 10),none⟩,⟨some 12,.call ⟨.builtin .append,#[.const (.slice none 0 0),.tmp 11],#[57,57]⟩,none⟩,⟨some 13,.fieldAddr 64 (.tmp 1) 2,none⟩,⟨some 14,.fieldAddr 61 (.tmp 13) 1,none⟩,⟨some 15,.load 57 (.tmp 14),none⟩,⟨some 16,.call ⟨.builtin .append,#[.tmp 12,.tmp 15],#[57,57]⟩,none⟩,⟨some 17,.call ⟨.value (.func 90),#[.tmp 16],#[57]⟩,none⟩,⟨some 3,.assign (.tmp 17),none⟩]) (.seq (.reg [⟨some 19,.load 64 (.tmp 1),none⟩,⟨some 20,.call ⟨.value (.func 39),#[.tmp 19,.const (.int .i64 1),.const (.int .i64 20001)],#[64,3,3]⟩,none⟩,⟨some 18,.move (.tmp 20),none⟩,⟨some 21,.extract (.tmp 18) 0,none⟩,⟨some 22,.extract (.tmp 18) 1,none⟩,⟨some 4,.assign (.tmp 21),none⟩,⟨some 5,.assign (.tmp 22),none⟩]) (.seq (.seq (.reg [⟨some 6,.assign (.const (.int .i64 0)),none⟩]) (.bloop 0 x41_L0)) (.seq (.reg [⟨some 2,.assign (.const (.bool true)),none⟩]) .ret))))
@[simp] theorem x41_s {C e s K} : type_of% (@X_at C e s K _ _ x41_L2.eq_1) ∧ type_of% (@X_at C e s K _ _ x41_L0.eq_1) ∧ type_of% (@X_at C e s K _ _ x41.eq_1) := ⟨X_at x41_L2.eq_1, X_at x41_L0.eq_1, X_at x41.eq_1⟩
def an41 : Ann := ⟨[(1, .mix 7), (6, .mix 13)], [(2, [], [3, 4, 6, 7, 8], [2, 3, 4, 6]), (0, [], [3, 4, 6], [2])], []⟩
@[simp] theorem an41_a : an41.clsOf 1 = .mix 7 ∧ an41.clsOf 6 = .mix 13 ∧ an41.frzOf 1 = [] ∧ an41.frzOf 6 = [] ∧ an41.loopOf 2 = ([], [3, 4, 6, 7, 8], [2, 3, 4, 6]) ∧ an41.loopOf 0 = ([], [3, 4, 6], [2]) := ⟨rfl, rfl, rfl, rfl, rfl, rfl⟩
theorem fi41 : FI Try.prog 41 (cxA an41) x41 [.tmp 2] Try.f41 := fiA Try.func41 mixed
theorem inEnd_law (u : Bool) (p : Pf) (hp : Szs p) (hc : (checkF u p).1 = 0) (hn : ∀ s ∈ stepsP p, s.rule ≠ ⟨#[99, 117, 116]⟩) : CallOK Try.prog 41 [.agg (prf p)] [] (.bool true) [] := by
 have hfine := Fine.of_look p 0 1 hc
 have hparts := fine_parts hfine hn
 obtain ⟨c1, c2, c3⟩ := check_steps hc
 have hst := Steps_ref p hp 1 20001 (by decide) (by decide) (by decide)
 have hss := szs_steps hp
 have hrt := sequent_all (fine_root hfine)
 have hlen : ((preD p 1).take 20002) = preD p 1 := List.take_of_length_le (by rw [← List.length_map (f := (·.1)), c1]; omega)
 rw [show (20001 + 1 : Nat) = 20002 from rfl, hlen] at hst
 have hq := PartsIn_own (p.l ++ p.r) (by rw [List.length_append]; omega) (fun f hf => ((plainF_iff f).1 ((List.mem_append.1 hf).elim (hrt.2.1 f) (hrt.2.2 f))).2)
 have hmem : ∀ x, x ∈ (pres (p.l ++ p.r)).foldl addE [] ↔ x ∈ pres (p.l ++ p.r) := fun x => by rw [addE_mem]; simp
 have hh : ∀ (k : Nat) (hk : k < (preD p 1).length) (x : Fm), (x ∈ ((preD p 1)[k]).1.l ++ ((preD p 1)[k]).1.r ∨ (((preD p 1)[k]).1.rule ≠ ⟨#[119, 101, 97, 107]⟩ ∧ x = ((preD p 1)[k]).1.f)) → CallOK Try.prog 91 [.list (((pres (p.l ++ p.r)).foldl addE []).map frm), .agg (frm x)] [] (.bool true) [] := by
  intro k hk x hx
  have hs : ((preD p 1)[k]).1 ∈ stepsP p := by rw [← c1]; exact List.mem_map.2 ⟨_, List.getElem_mem hk, rfl⟩
  have h := Has_ref ((pres (p.l ++ p.r)).foldl addE []) x
  rw [any_same.2 ((hmem x).2 (hx.elim ((hparts _ hs).1 x) fun g => g.2 ▸ (hparts _ hs).2 g.1))] at h
  exact h
 have hsz : ∀ (k : Nat) (hk : k < (preD p 1).length), ((preD p 1)[k]).1.l.length ≤ 40000 ∧ ((preD p 1)[k]).1.r.length ≤ 40000 := fun k hk => hss _ (by rw [← c1]; exact List.mem_map.2 ⟨_, List.getElem_mem hk, rfl⟩)
 have hl0 := hp.sz.l
 have hr0 := hp.sz.r
 clear hparts c1 c3 hss hrt hlen hmem hfine
 generalize (pres (p.l ++ p.r)).foldl addE [] = R at *
 generalize preD p 1 = T at *
 refine fi41.op ?_
 rw [List.length_append] at hq
 ((refine Sg.h ?_); try repeat' ((first | (with_reducible first | refine brA ?_ | refine brE fun _ => ?_ | (refine spl ⟨?_, ?_⟩ <;> intro _))) <;> ((try simp -implicitDefEqProofs); (try simp -implicitDefEqProofs (disch := first | assumption | (try simp only [lens]); omega -splitDisjunctions)))))
 refine CD.sub [2] (hc := by simpa using hq) ?_
 ((refine Sg.h ?_); try repeat' ((first | (with_reducible first | refine brA ?_ | refine brE fun _ => ?_ | (refine spl ⟨?_, ?_⟩ <;> intro _)) | refine clo hst ?_) <;> ((try simp -implicitDefEqProofs); (try simp -implicitDefEqProofs (disch := first | assumption | (try simp only [lens]); omega -splitDisjunctions)))))
 refine W_of fun Q hQ => ?_
 have main : ∀ r i, i + r = T.length → Q [(3, .list (R.map frm)), (4, .list (T.map stpRow)), (6, .int .i64 (i : Int))] [] := by
  intro r
  induction r with
  | zero =>
   intro i hi
   apply hQ
   clear hQ
   ((refine Sg.h ?_); try repeat' ((first | (with_reducible first | refine brA ?_ | refine brE fun _ => ?_ | (refine spl ⟨?_, ?_⟩ <;> intro _))) <;> ((try simp -implicitDefEqProofs); (try simp -implicitDefEqProofs (disch := first | assumption | (try simp only [lens]); omega -splitDisjunctions)))))
  | succ r ih =>
   intro i hi
   have hil : i < T.length := by omega
   have ih := ih (i + 1) (by omega)
   have hk := hh i hil
   obtain ⟨s1, s2⟩ := hsz i hil
   have htk : List.take (T[i].1.l.length + T[i].1.r.length) (T[i].1.l.map frm ++ T[i].1.r.map frm) = T[i].1.l.map frm ++ T[i].1.r.map frm := List.take_of_length_le (by simp)
   apply hQ
   clear hQ
   by_cases hw : T[i].1.rule = ⟨#[119, 101, 97, 107]⟩
   ·((refine Sg.h ?_); try repeat' ((first | (with_reducible first | refine brA ?_ | refine brE fun _ => ?_ | (refine spl ⟨?_, ?_⟩ <;> intro _))) <;> ((try simp -implicitDefEqProofs [hil, hw]); (try simp -implicitDefEqProofs (disch := first | assumption | (try simp only [lens]); omega -splitDisjunctions) [hil, hw]))))
    refine W_of fun Q2 hQ2 => ?_
    have hA : ∀ x ∈ T[i].1.l ++ T[i].1.r, CallOK Try.prog 91 [.list (R.map frm), .agg (frm x)] [] (.bool true) [] := fun x hx => hk x (by exact .inl hx)
    have hAl : (T[i].1.l ++ T[i].1.r).length ≤ 100000 := by simp only [List.length_append, List.length_singleton]; omega
    obtain ⟨A, hAe⟩ : ∃ A, A = T[i].1.l ++ T[i].1.r := ⟨_, rfl⟩
    rw [← hAe] at hA hAl
    have main2 : ∀ n k, k + n = A.length → Q2 [(3, .list (R.map frm)), (4, .list (T.map stpRow)), (6, .int .i64 (i : Int)), (7, .sl 0 0 A.length), (8, .int .i64 (k : Int))] [.rows 3 (A.map frm)] := by
     intro n
     induction n with
     | zero =>
      intro k hk2
      apply hQ2
      clear hQ2
      ((refine Sg.h ?_); try repeat' ((first | (with_reducible first | refine brA ?_ | refine brE fun _ => ?_ | (refine spl ⟨?_, ?_⟩ <;> intro _))) <;> ((try simp -implicitDefEqProofs); (try simp -implicitDefEqProofs (disch := first | assumption | (try simp only [lens]); omega -splitDisjunctions)))))
      all_goals first | exact ih | (refine at2 ih ?_ ?_ <;> simp; done) | (exfalso; first | omega | (simp_all; done) | (simp_all; omega))
     | succ n ihn =>
      intro k hk2
      have hkl : k < A.length := by omega
      have ihn := ihn (k + 1) (by omega)
      have hx := hA _ (List.getElem_mem hkl)
      apply hQ2
      clear hQ2
      ((refine Sg.h ?_); try repeat' ((first | (with_reducible first | refine brA ?_ | refine brE fun _ => ?_ | (refine spl ⟨?_, ?_⟩ <;> intro _)) | refine clo hx ?_) <;> ((try simp -implicitDefEqProofs [hkl]); (try simp -implicitDefEqProofs (disch := first | assumption | (try simp only [lens]); omega -splitDisjunctions) [hkl]))))
      all_goals first | exact ihn | (refine at2 ihn ?_ ?_ <;> simp; done) | (exfalso; first | omega | (simp_all; done) | (simp_all; omega))
    all_goals first | exact (main2 _ 0 (Nat.zero_add _)) | (refine at2 (main2 _ 0 (Nat.zero_add _)) ?_ ?_ <;> simp [hAe, htk, Nat.add_assoc]; done) | (exfalso; first | omega | (simp_all; done) | (simp_all; omega))
   ·((refine Sg.h ?_); try repeat' ((first | (with_reducible first | refine brA ?_ | refine brE fun _ => ?_ | (refine spl ⟨?_, ?_⟩ <;> intro _))) <;> ((try simp -implicitDefEqProofs [hil, hw, htk]); (try simp -implicitDefEqProofs (disch := first | assumption | (try simp only [lens]); omega -splitDisjunctions) [hil, hw, htk]))))
    refine W_of fun Q2 hQ2 => ?_
    have hA : ∀ x ∈ T[i].1.l ++ T[i].1.r ++ [T[i].1.f], CallOK Try.prog 91 [.list (R.map frm), .agg (frm x)] [] (.bool true) [] := fun x hx => hk x (by exact (List.mem_append.1 hx).imp id fun g => ⟨hw, List.mem_singleton.1 g⟩)
    have hAl : (T[i].1.l ++ T[i].1.r ++ [T[i].1.f]).length ≤ 100000 := by simp only [List.length_append, List.length_singleton]; omega
    obtain ⟨A, hAe⟩ : ∃ A, A = T[i].1.l ++ T[i].1.r ++ [T[i].1.f] := ⟨_, rfl⟩
    rw [← hAe] at hA hAl
    have main2 : ∀ n k, k + n = A.length → Q2 [(3, .list (R.map frm)), (4, .list (T.map stpRow)), (6, .int .i64 (i : Int)), (7, .sl 0 0 A.length), (8, .int .i64 (k : Int))] [.rows 3 (A.map frm)] := by
     intro n
     induction n with
     | zero =>
      intro k hk2
      apply hQ2
      clear hQ2
      ((refine Sg.h ?_); try repeat' ((first | (with_reducible first | refine brA ?_ | refine brE fun _ => ?_ | (refine spl ⟨?_, ?_⟩ <;> intro _))) <;> ((try simp -implicitDefEqProofs); (try simp -implicitDefEqProofs (disch := first | assumption | (try simp only [lens]); omega -splitDisjunctions)))))
      all_goals first | exact ih | (refine at2 ih ?_ ?_ <;> simp; done) | (exfalso; first | omega | (simp_all; done) | (simp_all; omega))
     | succ n ihn =>
      intro k hk2
      have hkl : k < A.length := by omega
      have ihn := ihn (k + 1) (by omega)
      have hx := hA _ (List.getElem_mem hkl)
      apply hQ2
      clear hQ2
      ((refine Sg.h ?_); try repeat' ((first | (with_reducible first | refine brA ?_ | refine brE fun _ => ?_ | (refine spl ⟨?_, ?_⟩ <;> intro _)) | refine clo hx ?_) <;> ((try simp -implicitDefEqProofs [hkl]); (try simp -implicitDefEqProofs (disch := first | assumption | (try simp only [lens]); omega -splitDisjunctions) [hkl]))))
      all_goals first | exact ihn | (refine at2 ihn ?_ ?_ <;> simp; done) | (exfalso; first | omega | (simp_all; done) | (simp_all; omega))
    all_goals first | exact (main2 _ 0 (Nat.zero_add _)) | (refine at2 (main2 _ 0 (Nat.zero_add _)) ?_ ?_ <;> simp [hAe, htk, Nat.add_assoc]; done) | (exfalso; first | omega | (simp_all; done) | (simp_all; omega))
 all_goals first | exact main _ 0 (Nat.zero_add _) | (refine at2 main _ 0 (Nat.zero_add _) ?_ ?_ <;> simp; done) | (exfalso; first | omega | (simp_all; done) | (simp_all; omega))
end Go.Proofs.Ytkadceiolddmhaa
namespace Go.Proofs.Ytkadceiolddmhaa
open Go Go.Pv
theorem add_c_mono (m : Ms) (x : Pf × Int) : m.c ≤ (m.add x).c := by
 unfold Ms.add
 dsimp only
 split <;> omega
theorem foldl_c_mono : ∀ (L : List (Pf × Int)) (m : Ms), m.c ≤ (L.foldl Ms.add m).c
 | [], m => Int.le_refl _
 | x :: r, m => Int.le_trans (add_c_mono m x) (foldl_c_mono r _)
theorem rank_zero : ∀ (L : List (Pf × Int)) (m : Ms), ¬ 0 < (L.foldl Ms.add m).c → 0 ≤ m.c → (∀ x ∈ L, x.1.rule = cutNm → 0 < lenF x.1.f) → ∀ x ∈ L, x.1.rule ≠ cutNm
 | [], m, _, _, _, x, hx => nomatch hx
 | y :: r, m, h, hm, hp, x, hx => by
  rw [List.foldl_cons] at h
  have h1 := foldl_c_mono r (m.add y)
  have h2 := add_c_mono m y
  rcases List.mem_cons.1 hx with rfl | hx
  ·intro hr
   have := hp x (.head _) hr
   have h3 : lenF x.1.f ≤ (m.add x).c := by
    unfold Ms.add
    dsimp only
    rw [if_pos hr]
    omega
   omega
  ·exact rank_zero r _ h (by omega) (fun x hx => hp x (List.mem_cons_of_mem _ hx)) x hx
def x10 : XC := .seq (.reg [⟨some 2,.box 64 (.tmp 0),none⟩,⟨some 4,.assign (.const (.bool false)),none⟩]) (.seq (.seq (.reg [⟨some 9,.call ⟨.value (.func 35),#[],#[]⟩,none⟩,⟨some 10,.unOp .not 4 (.tmp 9),none⟩]) (.cond (.tmp 10) (.seq (.reg [⟨some 4,.assign (.const (.bool false)),none⟩]) .ret) .skip)) (.seq (.seq (.reg [⟨some 11,.load 64 (.tmp 2),none⟩,⟨some 12,.call ⟨.value (.func 36),#[.tmp 11,.const (.int .i64 0)],#[64,3]⟩,none⟩]) (.cond (.tmp 12) (.seq (.reg [⟨some 4,.assign (.const (.bool true)),none⟩]) .ret) .skip)) (.seq (.reg [⟨some 14,.load 64 (.tmp 2),none⟩,⟨some 15,.move (.tmp 1),none⟩,⟨some 16,.call ⟨.value (.func 37),#[.tmp 14,.tmp 15],#[64,4]⟩,none⟩,⟨some 13,.move (.tmp 16),none⟩,⟨some 17,.extract (.tmp 13) 0,none⟩,⟨some 18,.extract (.tmp 13) 1,none⟩,⟨some 19,.extract (.tmp 13) 2,none⟩,⟨some 20,.extract (.tmp 13) 3,none⟩,⟨some 8,.alloc 33,none⟩,⟨some 5,.assign (.tmp 17),none⟩,⟨some 6,.assign (.tmp 18),none⟩,⟨some 7,.assign (.tmp 19),none⟩,⟨none,.store 33 (.tmp 8) (.tmp 20),none⟩]) (.seq (.reg [⟨some 21,.fieldAddr 33 (.tmp 8) 0,none⟩,⟨some 22,.load 3 (.tmp 21),none⟩,⟨some 23,.binOp .neq 3 (.tmp 22) (.const (.int .i64 0)) 3,none⟩,⟨some 24,.move (.tmp 23),none⟩,⟨some 25,.move (.tmp 7),some (some 24,false)⟩,⟨some 26,.binOp .gtr 3 (.tmp 25) (.const (.int .i64 0)) 3,some (some 24,false)⟩,⟨some 27,.pick (.tmp 24) (.const (.bool true)) (.tmp 26),none⟩,⟨some 28,.move (.tmp 27),none⟩,⟨some 29,.load 64 (.tmp 2),some (some 28,false)⟩,⟨some 30,.call ⟨.value (.func 41),#[.tmp 29],#[64]⟩,some (some 28,false)⟩,⟨some 31,.pick (.tmp 28) (.const (.bool true)) (.tmp 30),none⟩,⟨some 4,.assign (.tmp 31),none⟩]) .ret))))
@[simp] theorem x10_s {C e s K} : type_of% (@X_at C e s K _ _ x10.eq_1) := X_at x10.eq_1
def an10 : Ann := ⟨[], [], []⟩
theorem fi10 : FI Try.prog 10 (cxA an10) x10 [.tmp 4] Try.f10 := fiA Try.func10 mixed
theorem cutParts_law (p : Pf) (u : Bool) : CallOK Try.prog 10 [.agg (prf p), .bool u] [] (.bool true) [] := by
 have h0 := cutBegun_law
 have h1 := VastProof_ref p 0 (by decide) (by decide)
 refine fi10.op ?_
 cases hv : vastP p 0 with
 | true =>
  rw [hv] at h1
  ((refine Sg.h ?_); try repeat' ((first | (with_reducible first | refine brA ?_ | refine brE fun _ => ?_ | (refine spl ⟨?_, ?_⟩ <;> intro _)) | refine clo h0 ?_ | refine clo h1 ?_) <;> ((try simp -implicitDefEqProofs); (try simp -implicitDefEqProofs (disch := first | assumption | (try simp only [lens]); omega -splitDisjunctions)))))
 | false =>
  rw [hv] at h1
  have hsz := vast_szs p 0 hv
  by_cases hc : (checkF u p).1 = 0
  ·have h3 := Measure_ok u p hsz hc
   by_cases hr : 0 < ((preD p 1).foldl Ms.add ⟨0, 0, 0⟩).c
   ·generalize (preD p 1).foldl Ms.add ⟨0, 0, 0⟩ = M at *
    ((refine Sg.h ?_); try repeat' ((first | (with_reducible first | refine brA ?_ | refine brE fun _ => ?_ | (refine spl ⟨?_, ?_⟩ <;> intro _)) | refine clo h0 ?_ | refine clo h1 ?_ | refine clo h3 ?_) <;> ((try simp -implicitDefEqProofs [hr]); (try simp -implicitDefEqProofs (disch := first | assumption | (try simp only [lens]); omega -splitDisjunctions) [hr]))))
   ·have hno := rank_zero _ _ hr (by decide) fun x hx hr => by
     unfold lenF
     rw [nodes_plain (cut_plain hc x hx hr), pre_eq, List.length_cons]
     omega
    have h4 := inEnd_law u p hsz hc fun s hs => by
     rw [← (check_steps hc).1] at hs
     obtain ⟨x, hx, rfl⟩ := List.mem_map.1 hs
     exact hno x hx
    generalize (preD p 1).foldl Ms.add ⟨0, 0, 0⟩ = M at *
    ((refine Sg.h ?_); try repeat' ((first | (with_reducible first | refine brA ?_ | refine brE fun _ => ?_ | (refine spl ⟨?_, ?_⟩ <;> intro _)) | refine clo h0 ?_ | refine clo h1 ?_ | refine clo h3 ?_ | refine clo h4 ?_) <;> ((try simp -implicitDefEqProofs [hr]); (try simp -implicitDefEqProofs (disch := first | assumption | (try simp only [lens]); omega -splitDisjunctions) [hr]))))
  ·have h3 := Measure_fault u p hsz hc
   generalize checkF u p = V at *
   ((refine Sg.h ?_); try repeat' ((first | (with_reducible first | refine brA ?_ | refine brE fun _ => ?_ | (refine spl ⟨?_, ?_⟩ <;> intro _)) | refine clo h0 ?_ | refine clo h1 ?_ | refine clo h3 ?_) <;> ((try simp -implicitDefEqProofs [hc]); (try simp -implicitDefEqProofs (disch := first | assumption | (try simp only [lens]); omega -splitDisjunctions) [hc]))))
end Go.Proofs.Ytkadceiolddmhaa
