import Derived.Test.YtnoklmapofogeaaUCcD
import Derived.Test.YtnoklmapofogeaaUTrB
import Derived.Test.YtnoklmapofogeaaUPvQt
set_option linter.unusedVariables false
set_option linter.unusedSimpArgs false
set_option maxRecDepth 100000
set_option maxHeartbeats 4000000
namespace Go.Proofs.Ytnoklmapofogeaa
open Go Go.Pv
def seqGo : List Fm → Nat → Int × Int
 | [], _ => (0, 0)
 | f :: r, i => if (plainF f).1 ≠ 0 then ((plainF f).1, (i : Int)) else seqGo r (i + 1)
def sequentF (l r : List Fm) : Int × Int := if 60 < l.length + r.length then (2, 0) else seqGo (l ++ r) 0
theorem plainL_sgl (f : Fm) : plainL [f] = if (plainF f).1 ≠ 0 then plainF f else (0, 0) := rfl
def x30_T1 : XC := .seq (.reg [⟨some 38,.build 33 #[],none⟩,⟨none,.store 33 (.tmp 2) (.tmp 38),none⟩]) .ret
def x30_L0 : XC := .seq (.reg [⟨some 23,.binOp .lss 3 (.tmp 22) (.tmp 21) 3,none⟩]) (.seq (.cond (.tmp 23) .skip (.exit 0)) (.seq (.block 1 (.seq (.reg [⟨some 24,.move (.tmp 22),none⟩,⟨some 25,.indexAddr 22 (.tmp 20) (.tmp 22),none⟩,⟨some 26,.load 24 (.tmp 25),none⟩,⟨some 4,.alloc 24,none⟩,⟨some 3,.assign (.tmp 24),none⟩,⟨none,.store 24 (.tmp 4) (.tmp 26),none⟩]) (.seq (.reg [⟨some 27,.load 24 (.tmp 4),none⟩,⟨some 28,.buildSlice 22 1 #[(0,.tmp 27)],none⟩,⟨some 29,.call ⟨.value (.func 70),#[.tmp 28],#[22]⟩,none⟩,⟨some 5,.alloc 33,none⟩,⟨none,.store 33 (.tmp 5) (.tmp 29),none⟩]) (.seq (.reg [⟨some 30,.fieldAddr 33 (.tmp 5) 0,none⟩,⟨some 31,.load 3 (.tmp 30),none⟩,⟨some 32,.binOp .neq 3 (.tmp 31) (.const (.int .i64 0)) 3,none⟩]) (.cond (.tmp 32) (.seq (.reg [⟨some 33,.fieldAddr 33 (.tmp 5) 0,none⟩,⟨some 34,.load 3 (.tmp 33),none⟩,⟨some 35,.move (.tmp 3),none⟩,⟨some 36,.call ⟨.value (.func 68),#[.tmp 34,.tmp 35],#[3,3]⟩,none⟩,⟨none,.store 33 (.tmp 2) (.tmp 36),none⟩]) .ret) .skip))))) (.reg [⟨some 37,.binOp .add 3 (.tmp 22) (.const (.int .i64 1)) 3,none⟩,⟨some 22,.move (.tmp 37),none⟩])))
def x30 : XC := .seq (.reg [⟨some 1,.box 26 (.tmp 0),none⟩,⟨some 2,.alloc 33,none⟩]) (.seq (.seq (.reg [⟨some 6,.fieldAddr 26 (.tmp 1) 0,none⟩,⟨some 7,.load 22 (.tmp 6),none⟩,⟨some 8,.call ⟨.builtin .len,#[.tmp 7],#[22]⟩,none⟩,⟨some 9,.fieldAddr 26 (.tmp 1) 1,none⟩,⟨some 10,.load 22 (.tmp 9),none⟩,⟨some 11,.call ⟨.builtin .len,#[.tmp 10],#[22]⟩,none⟩,⟨some 12,.binOp .add 3 (.tmp 8) (.tmp 11) 3,none⟩,⟨some 13,.binOp .gtr 3 (.tmp 12) (.const (.int .i64 60)) 3,none⟩]) (.cond (.tmp 13) (.seq (.reg [⟨some 14,.call ⟨.value (.func 68),#[.const (.int .i64 2),.const (.int .i64 0)],#[3,3]⟩,none⟩,⟨none,.store 33 (.tmp 2) (.tmp 14),none⟩]) .ret) .skip)) (.seq (.seq (.reg [⟨some 15,.fieldAddr 26 (.tmp 1) 0,none⟩,⟨some 16,.load 22 (.tmp 15),none⟩,⟨some 17,.fieldAddr 26 (.tmp 1) 1,none⟩,⟨some 18,.load 22 (.tmp 17),none⟩,⟨some 19,.buildSlice 114 2 #[(0,.tmp 16),(1,.tmp 18)],none⟩,⟨some 20,.call ⟨.value (.func 69),#[.tmp 19],#[114]⟩,none⟩,⟨some 21,.call ⟨.builtin .len,#[.tmp 20],#[22]⟩,none⟩,⟨some 22,.move (.const (.int .i64 0)),none⟩]) (.bloop 0 x30_L0)) (x30_T1)))
@[simp] theorem x30_s {C e s K} : type_of% (@X_at C e s K _ _ x30_T1.eq_1) ∧ type_of% (@X_at C e s K _ _ x30_L0.eq_1) ∧ type_of% (@X_at C e s K _ _ x30.eq_1) := ⟨X_at x30_T1.eq_1, X_at x30_L0.eq_1, X_at x30.eq_1⟩
def an30 : Ann := ⟨[], [(0, [], [2, 20, 21, 22], [2])], []⟩
@[simp] theorem an30_a : an30.loopOf 0 = ([], [2, 20, 21, 22], [2]) := rfl
theorem fi30 : FI Try.prog 30 (cxA an30) x30 [.cell 2 33] Try.f30 := fiA Try.func30 mixed
theorem CheckSequent_calculus (l r : List Fm) (hl : l.length ≤ 50000) (hr : r.length ≤ 50000) : CallOK Try.prog 30 [.agg [.list (l.map frm), .list (r.map frm)]] [] (.agg [.int .i64 (sequentF l r).1, .int .i64 (sequentF l r).2]) [] := by
 refine fi30.op ?_
 unfold sequentF
 by_cases h6 : 60 < l.length + r.length
 ·have h6i : (60 : Int) < (l.length : Int) + (r.length : Int) := by omega
  rw [if_pos h6]
  ((refine Sg.h ?_); try repeat' ((first | (with_reducible first | refine brA ?_ | refine brE fun _ => ?_ | (refine spl ⟨?_, ?_⟩ <;> intro _)) | refine clo (fault_calculus 2 0) ?_) <;> ((try simp -implicitDefEqProofs [h6i]); (try simp -implicitDefEqProofs (disch := first | assumption | (try simp only [lens]); omega -splitDisjunctions) [h6i]))))
 ·have h6i : ¬ (60 : Int) < (l.length : Int) + (r.length : Int) := by omega
  rw [if_neg h6]
  have hc := Concat_fms [l, r] (by simp) (by simp; omega)
  rw [show [l, r].flatten = l ++ r from by simp] at hc
  simp only [List.map_cons, List.map_nil] at hc
  have hL : (l ++ r).length ≤ 60 := by simp; omega
  generalize hE : seqGo (l ++ r) 0 = E
  generalize l ++ r = L at *
  ((refine Sg.h ?_); try repeat' ((first | (with_reducible first | refine brA ?_ | refine brE fun _ => ?_ | (refine spl ⟨?_, ?_⟩ <;> intro _))) <;> ((try simp -implicitDefEqProofs [h6i]); (try simp -implicitDefEqProofs (disch := first | assumption | (try simp only [lens]); omega -splitDisjunctions) [h6i]))))
  refine CL.giv [2] ?_
  ((refine Sg.h ?_); try repeat' ((first | (with_reducible first | refine brA ?_ | refine brE fun _ => ?_ | (refine spl ⟨?_, ?_⟩ <;> intro _)) | refine clo hc ?_) <;> ((try simp -implicitDefEqProofs); (try simp -implicitDefEqProofs (disch := first | assumption | (try simp only [lens]); omega -splitDisjunctions)))))
  refine W_of fun Q hQ => ?_
  have main : ∀ n i, i + n = L.length → seqGo (L.drop i) i = E → Q [(2, .ptr 0 0 0), (20, .list (L.map frm)), (21, .int .i64 (L.length : Int)), (22, .int .i64 (i : Int))] [.rows 2 [[.int .i64 0, .int .i64 0]]] := by
   intro n
   induction n with
   | zero =>
    intro i hi he
    rw [List.drop_of_length_le (by omega), seqGo] at he
    apply hQ
    clear hQ
    subst he
    ((refine Sg.h ?_); try repeat' ((first | (with_reducible first | refine brA ?_ | refine brE fun _ => ?_ | (refine spl ⟨?_, ?_⟩ <;> intro _))) <;> ((try simp -implicitDefEqProofs); (try simp -implicitDefEqProofs (disch := first | assumption | (try simp only [lens]); omega -splitDisjunctions)))))
   | succ n ih =>
    intro i hi he
    have hil : i < L.length := by omega
    have ih := ih (i + 1) (by omega)
    rw [List.drop_eq_getElem_cons hil, seqGo] at he
    have hp := Plain_truth [L[i]] (by simp)
    rw [plainL_sgl] at hp
    apply hQ
    clear hQ
    by_cases h0 : (plainF L[i]).1 = 0
    ·rw [if_neg (by simpa using h0)] at he hp
     have ih := ih he
     ((refine Sg.h ?_); try repeat' ((first | (with_reducible first | refine brA ?_ | refine brE fun _ => ?_ | (refine spl ⟨?_, ?_⟩ <;> intro _))) <;> ((try simp -implicitDefEqProofs [hil]); (try simp -implicitDefEqProofs (disch := first | assumption | (try simp only [lens]); omega -splitDisjunctions) [hil]))))
     refine CL.giv [2] ?_
     ((refine Sg.h ?_); try repeat' ((first | (with_reducible first | refine brA ?_ | refine brE fun _ => ?_ | (refine spl ⟨?_, ?_⟩ <;> intro _)) | refine clo hp ?_) <;> ((try simp -implicitDefEqProofs [hil]); (try simp -implicitDefEqProofs (disch := first | assumption | (try simp only [lens]); omega -splitDisjunctions) [hil]))))
     all_goals first | exact ih | (refine at2 ih ?_ ?_ <;> simp; done) | (exfalso; first | omega | (simp_all; done) | (simp_all; omega))
    ·rw [if_pos (by simpa using h0)] at he hp
     have hf := fault_calculus (plainF L[i]).1 (i : Int)
     subst he
     generalize plainF L[i] = P at *
     ((refine Sg.h ?_); try repeat' ((first | (with_reducible first | refine brA ?_ | refine brE fun _ => ?_ | (refine spl ⟨?_, ?_⟩ <;> intro _))) <;> ((try simp -implicitDefEqProofs [hil]); (try simp -implicitDefEqProofs (disch := first | assumption | (try simp only [lens]); omega -splitDisjunctions) [hil]))))
     refine CL.giv [2] ?_
     ((refine Sg.h ?_); try repeat' ((first | (with_reducible first | refine brA ?_ | refine brE fun _ => ?_ | (refine spl ⟨?_, ?_⟩ <;> intro _)) | refine clo hp ?_ | refine clo hf ?_) <;> ((try simp -implicitDefEqProofs [h0]); (try simp -implicitDefEqProofs (disch := first | assumption | (try simp only [lens]); omega -splitDisjunctions) [h0]))))
  all_goals first | exact main _ 0 (Nat.zero_add _) hE | (refine at2 main _ 0 (Nat.zero_add _) hE ?_ ?_ <;> simp; done) | (exfalso; first | omega | (simp_all; done) | (simp_all; omega))
end Go.Proofs.Ytnoklmapofogeaa
namespace Go.Pv
open Go
theorem RetView.frz {m : Nat} (F : List Nat) (v : PV) (s : Store) : RetView m v s (frzV F s v) (s.mapIdx (frzO F s)) := by
 intro C pub σ w cv hC hs hr
 have her : ER pub σ 1 (envOf [(0, v)]) { tmps := #[cv], defers := [] } := by
  refine ⟨rfl, rfl, fun t => ?_⟩
  by_cases ht : t = 0
  ·subst ht; simpa [envOf] using hr
  ·have : envOf [(0, v)] t = .any := by simp [envOf, ht]
   rw [this]; exact .any
 obtain ⟨p, q, h1, h2⟩ := withFrz_view (m := m) F [(0, v)] C pub σ _ w 1 hC hs her
 exact ⟨p, q, h1, by simpa [withFrz, envOf, frzV] using h2.rel 0⟩
def OZ (F : List Nat) (m : Nat) (v : PV) (s' : Store) (v1 : PV) (s1 : Store) : Prop := gcFin m v s' (frzV F s1 v1) (s1.mapIdx (frzO F s1))
def ozFin (m : Nat) (v : PV) (s' : Store) (v1 : PV) (s1 : Store) : Prop := OZ (grow s1 64 ((refsN 4 v1).filter fun r => !r.2) []) m v s' v1 s1
@[simp] theorem ozFin_eq {m : Nat} {v v1 : PV} {s1 s' : Store} : ozFin m v s' v1 s1 = OZ (grow s1 64 ((refsN 4 v1).filter fun r => !r.2) []) m v s' v1 s1 := rfl
theorem frzV_nil {s : Store} {v : PV} : frzV [] s v = v := by unfold frzV; simp
theorem frzO_nil {s : Store} {i : Nat} {o : PObj} : frzO [] s i o = o := by
 unfold frzO
 have h : frzV [] s = id := by funext v; exact frzV_nil
 have h2 : List.map (frzV [] s) = id := by rw [h]; funext l; simp
 rw [if_neg (by simp)]
 cases o <;> simp [h, h2]
@[simp] theorem OZ_nil {m : Nat} {v v1 : PV} {s1 s' : Store} : OZ [] m v s' v1 s1 = gcFin m v s' v1 s1 := by
 unfold OZ
 have : s1.mapIdx (frzO [] s1) = s1 := by
  apply List.ext_getElem?
  intro i
  rw [List.getElem?_mapIdx]
  cases s1[i]? <;> simp [frzO_nil]
 rw [frzV_nil, this]
@[simp] theorem OZ_cons {i : Nat} {F : List Nat} {m : Nat} {v v1 : PV} {s1 s' : Store} : OZ (i :: F) m v s' v1 s1 = gcFin m v s' (frzV (i :: F) s1 v1) (s1.mapIdx (frzO (i :: F) s1)) := rfl
theorem ozFin_ret {m : Nat} {v v1 : PV} {s1 s' : Store} (h : ozFin m v s' v1 s1) : RetView m v1 s1 v s' := RetView.trans (RetView.frz _ _ _) (gcFin_ret h)
theorem FI.oz {P : Program} {F : FuncId} {C : Program → Nat → WC} {x : XC} {rs : List ResultVar} {fn : Func} (i : FI P F C x rs fn) {args : List PV} {v : PV} {s s' : Store} (h : X (C P s.length) x (argsA 0 args) s (.fin rs (ozFin s.length v s'))) (hl : Nat.ble args.length fn.ntmps = true := by exact rfl) : CallOK P F args s v s' :=
 FI.ops i _ (fun v1 s1 h => ozFin_ret h) h hl
section
variable {C : WC} {d : Option Tmp} {fid : FuncId} {vs : List PV} {e : AE} {s s2 : Store} {K : KS} {v : PV} {t : RT}
theorem CT.of [EnT C.P fid] (hc : CallOK C.P fid vs s v s2) (hk : TR C t (updA e d v) s2 K) : CT C d (some (fid, vs)) t e s K := ⟨fid, vs, v, s2, rfl, EnT.h, hc, hk⟩
theorem CT.sub [EnT C.P fid] (ρ : List Nat) (hc : CallOK C.P fid (vs.map (renN ρ 4)) (liveS ρ s ρ) v s2) (hk : TR C t (updA e d (upN (ρ ++ List.range' s.length (s2.length - ρ.length)) 4 v)) (backS ρ s s2) K)
  (hnd : ρ.Nodup := by simp) (hin : ∀ i ∈ ρ, i < s.length := by simp) (hlen : ρ.length ≤ s2.length := by simp) : CT C d (some (fid, vs)) t e s K := by
 refine ⟨fid, vs, _, _, rfl, EnT.h, CallOK.sub ρ hnd hin hlen ?_, hk⟩
 have : ∀ L : List Nat, liveS ρ s L = L.map fun i => renObj ρ ((s[i]?).getD .dead) := by
  intro L; induction L with
  | nil => rfl
  | cons i r ih => rw [liveS, ih]; rfl
 rwa [← this]
end
def killO (D : List Nat) (i : Nat) (o : PObj) : PObj := if i ∈ D then .dead else o
theorem RetView.kill {m : Nat} (D : List Nat) (v : PV) (s : Store) : RetView m v s v (s.mapIdx (killO D)) := by
 intro C pub σ w cv hC hs hr
 refine ⟨pub, σ, hs.sub (by simp) fun k o h hd => ?_, hr⟩
 rw [List.getElem?_mapIdx] at h
 cases hk : s[k]? with
 | none => rw [hk] at h; cases h
 | some o1 =>
  rw [hk] at h
  simp only [Option.map_some, Option.some.injEq] at h
  unfold killO at h
  split at h
  ·exact absurd h.symm hd
  ·rw [h]
def odFin (D : List Nat) (m : Nat) (v : PV) (s' : Store) (v1 : PV) (s1 : Store) : Prop := ozFin m v s' v1 (s1.mapIdx (killO D))
@[simp] theorem odFin_eq {D : List Nat} {m : Nat} {v v1 : PV} {s1 s' : Store} : odFin D m v s' v1 s1 = ozFin m v s' v1 (s1.mapIdx (killO D)) := rfl
@[simp] theorem killO_eq {D : List Nat} {i : Nat} {o : PObj} : killO D i o = if i ∈ D then .dead else o := rfl
theorem FI.od {P : Program} {F : FuncId} {C : Program → Nat → WC} {x : XC} {rs : List ResultVar} {fn : Func} (i : FI P F C x rs fn) (D : List Nat) {args : List PV} {v : PV} {s s' : Store} (h : X (C P s.length) x (argsA 0 args) s (.fin rs (odFin D s.length v s'))) (hl : Nat.ble args.length fn.ntmps = true := by exact rfl) : CallOK P F args s v s' :=
 FI.ops i _ (fun v1 s1 h => RetView.trans (RetView.kill D _ _) (ozFin_ret h)) h hl
end Go.Pv
namespace Go.Proofs.Ytnoklmapofogeaa
open Go Go.Pv
def x89 : XC := .seq (.reg [⟨some 4,.alloc 33,none⟩]) (.seq (.reg [⟨some 5,.move (.tmp 0),none⟩,⟨some 6,.move (.tmp 1),none⟩,⟨some 7,.build 33 #[(0,.tmp 5),(1,.tmp 6)],none⟩,⟨none,.store 33 (.tmp 4) (.tmp 7),none⟩]) .ret)
@[simp] theorem x89_s {C e s K} : type_of% (@X_at C e s K _ _ x89.eq_1) := X_at x89.eq_1
def an89 : Ann := ⟨[], [], []⟩
theorem fi89 : FI Try.prog 89 (cxA an89) x89 [.cell 4 33] Try.f89 := fiA Try.func89 mixed
theorem fault_classic (a b : Int) : CallOK Try.prog 89 [.int .i64 a, .int .i64 b] [] (.agg [.int .i64 a, .int .i64 b]) [] := by
 refine fi89.op ?_
 ((refine Sg.h ?_); try repeat' ((first | (with_reducible first | refine brA ?_ | refine brE fun _ => ?_ | (refine spl ⟨?_, ?_⟩ <;> intro _))) <;> ((try simp -implicitDefEqProofs); (try simp -implicitDefEqProofs (disch := first | assumption | (try simp only [lens]); omega -splitDisjunctions)))))
def withL (l : List Fm) (i : Nat) (more : List Fm) : List Fm := l.take i ++ (l.drop (i + 1) ++ more)
def x114 : XC := .seq (.reg [⟨some 6,.assign (.const (.slice none 0 0)),none⟩]) (.seq (.drawn 1 [⟨some 7,.move (.tmp 0),none⟩,⟨some 8,.move (.tmp 1),none⟩,⟨some 9,.slice 22 (.tmp 7) none (some (.tmp 8)) none,none⟩,⟨some 10,.move (.tmp 0),none⟩,⟨some 11,.move (.tmp 1),none⟩,⟨some 12,.binOp .add 3 (.tmp 11) (.const (.int .i64 1)) 3,none⟩,⟨some 13,.slice 22 (.tmp 10) (some (.tmp 12)) none none,none⟩,⟨some 14,.move (.tmp 2),none⟩,⟨some 15,.buildSlice 114 3 #[(0,.tmp 9),(1,.tmp 13),(2,.tmp 14)],none⟩,⟨some 16,.call ⟨.value (.func 69),#[.tmp 15],#[114]⟩,none⟩,⟨some 6,.assign (.tmp 16),none⟩]) .ret)
@[simp] theorem x114_s {C e s K} : type_of% (@X_at C e s K _ _ x114.eq_1) := X_at x114.eq_1
def an114 : Ann := ⟨[(1, .mixz 9)], [], [(1, [2])]⟩
@[simp] theorem an114_a : an114.clsOf 1 = .mixz 9 ∧ an114.frzOf 1 = [2] := ⟨rfl, rfl⟩
theorem fi114 : FI Try.prog 114 (cxA an114) x114 [.tmp 6] Try.f114 := fiA Try.func114 mixed
theorem with_classic (l : List Fm) (i : Nat) (hi : i < l.length) (more : List Fm) (hl : l.length ≤ 100000) (hm : more.length ≤ 100000) : CallOK Try.prog 114 [.list (l.map frm), .int .i64 (i : Int), .list (more.map frm)] [] (.list ((withL l i more).map frm)) [] := by
 have hc := Concat_fms [l.take i, l.drop (i + 1), more] (by simp) (by simp; omega)
 rw [show [l.take i, l.drop (i + 1), more].flatten = withL l i more from by simp [withL]] at hc
 simp only [List.map_cons, List.map_nil, List.map_take, List.map_drop] at hc
 generalize withL l i more = W0 at *
 refine fi114.op ?_
 ((refine Sg.h ?_); try repeat' ((first | (with_reducible first | refine brA ?_ | refine brE fun _ => ?_ | (refine spl ⟨?_, ?_⟩ <;> intro _)) | refine clo hc ?_) <;> ((try simp -implicitDefEqProofs [hi]); (try simp -implicitDefEqProofs (disch := first | assumption | (try simp only [lens]); omega -splitDisjunctions) [hi]))))
def x140_L0 : XC := .seq (.reg [⟨some 9,.binOp .lss 3 (.tmp 8) (.tmp 7) 3,none⟩]) (.seq (.cond (.tmp 9) .skip (.exit 0)) (.seq (.block 1 (.seq (.reg [⟨some 10,.move (.tmp 8),none⟩,⟨some 5,.assign (.tmp 10),none⟩]) (.seq (.reg [⟨some 11,.move (.tmp 1),none⟩,⟨some 12,.move (.tmp 0),none⟩,⟨some 13,.move (.tmp 5),none⟩,⟨some 14,.indexAddr 22 (.tmp 12) (.tmp 13),none⟩,⟨some 15,.load 24 (.tmp 14),none⟩,⟨some 16,.call ⟨.value (.tmp 11),#[.tmp 15],#[24]⟩,none⟩]) (.cond (.tmp 16) (.seq (.reg [⟨some 17,.move (.tmp 5),none⟩,⟨some 4,.assign (.tmp 17),none⟩]) .ret) .skip)))) (.reg [⟨some 18,.binOp .add 3 (.tmp 8) (.const (.int .i64 1)) 3,none⟩,⟨some 8,.move (.tmp 18),none⟩])))
def x140 : XC := .seq (.reg [⟨some 4,.assign (.const (.int .i64 0)),none⟩]) (.seq (.seq (.reg [⟨some 6,.move (.tmp 0),none⟩,⟨some 7,.call ⟨.builtin .len,#[.tmp 6],#[22]⟩,none⟩,⟨some 8,.move (.const (.int .i64 0)),none⟩]) (.bloop 0 x140_L0)) (.seq (.reg [⟨some 4,.assign (.const (.int .i64 (-1))),none⟩]) .ret))
@[simp] theorem x140_s {C e s K} : type_of% (@X_at C e s K _ _ x140_L0.eq_1) ∧ type_of% (@X_at C e s K _ _ x140.eq_1) := ⟨X_at x140_L0.eq_1, X_at x140.eq_1⟩
def an140 : Ann := ⟨[], [(0, [], [0, 1, 7, 8], [4])], []⟩
@[simp] theorem an140_a : an140.loopOf 0 = ([], [0, 1, 7, 8], [4]) := rfl
theorem fi140 : FI Try.prog 140 (cxA an140) x140 [.tmp 4] Try.f140 := fiA Try.func140 mixed
theorem IndexFunc_fms (l : List Fm) (hl : l.length ≤ 1000000) (fid : Nat) [EnT Try.prog fid] (ys : List PV) [hy : FlatL ys] (p : Fm → Bool) (h : ∀ a ∈ l, CallOK Try.prog fid (.agg (frm a) :: ys) [] (.bool (p a)) []) :
  CallOK Try.prog 140 [.list (l.map frm), .fn (.func fid) [] ys] [] (.int .i64 (placeP p l)) [] := by
 have hcl : ∀ a : Fm, ∀ v ∈ .agg (frm a) :: ys, Closed v := by
  intro a v hv
  rcases List.mem_cons.1 hv with rfl | hv
  ·exact closed_frm a
  ·exact hy.closed v hv
 refine fi140.op ?_
 ((refine Sg.h ?_); try repeat' ((first | (with_reducible first | refine brA ?_ | refine brE fun _ => ?_ | (refine spl ⟨?_, ?_⟩ <;> intro _))) <;> ((try simp -implicitDefEqProofs); (try simp -implicitDefEqProofs (disch := first | assumption | (try simp only [lens]); omega -splitDisjunctions)))))
 refine W_of fun Q hQ => ?_
 have main : ∀ n i, i + n = l.length → (∀ j (hj : j < i) (hl : j < l.length), p l[j] = false) → Q [(0, .list (l.map frm)), (1, .fn (.func fid) [] ys), (7, .int .i64 (l.length : Int)), (8, .int .i64 (i : Int))] [] := by
  intro n
  induction n with
  | zero =>
   intro i hi hb
   have hv := placeP_none fun j hj => hb j (by omega) hj
   generalize placeP p l = v at *
   apply hQ
   subst hv
   ((refine Sg.h ?_); try repeat' ((first | (with_reducible first | refine brA ?_ | refine brE fun _ => ?_ | (refine spl ⟨?_, ?_⟩ <;> intro _))) <;> ((try simp -implicitDefEqProofs); (try simp -implicitDefEqProofs (disch := first | assumption | (try simp only [lens]); omega -splitDisjunctions)))))
  | succ n ih =>
   intro i hi hb
   have hil : i < l.length := by omega
   have hc := h _ (List.getElem_mem hil)
   have ih := ih (i + 1) (by omega)
   have hat := fun hp => placeP_at hil hp fun j hj => hb j hj (by omega)
   generalize placeP p l = v at *
   cases hp : p l[i] with
   | true =>
    have hv := hat hp
    rw [hp] at hc
    apply hQ
    clear hQ
    subst hv
    ((refine Sg.h ?_); try repeat' ((first | (with_reducible first | refine brA ?_ | refine brE fun _ => ?_ | (refine spl ⟨?_, ?_⟩ <;> intro _))) <;> ((try simp -implicitDefEqProofs [hil]); (try simp -implicitDefEqProofs (disch := first | assumption | (try simp only [lens]); omega -splitDisjunctions) [hil]))))
    refine CL.clo hc ?_ (hcl _)
    ((refine Sg.h ?_); try repeat' ((first | (with_reducible first | refine brA ?_ | refine brE fun _ => ?_ | (refine spl ⟨?_, ?_⟩ <;> intro _))) <;> ((try simp -implicitDefEqProofs); (try simp -implicitDefEqProofs (disch := first | assumption | (try simp only [lens]); omega -splitDisjunctions)))))
   | false =>
    have ih := ih fun j hj hl => by
     rcases Nat.lt_or_ge j i with hji | hji
     ·exact hb j hji hl
     ·have : j = i := by omega
      subst this; exact hp
    rw [hp] at hc
    apply hQ
    clear hQ
    ((refine Sg.h ?_); try repeat' ((first | (with_reducible first | refine brA ?_ | refine brE fun _ => ?_ | (refine spl ⟨?_, ?_⟩ <;> intro _))) <;> ((try simp -implicitDefEqProofs [hil]); (try simp -implicitDefEqProofs (disch := first | assumption | (try simp only [lens]); omega -splitDisjunctions) [hil]))))
    refine CL.clo hc ?_ (hcl _)
    ((refine Sg.h ?_); try repeat' ((first | (with_reducible first | refine brA ?_ | refine brE fun _ => ?_ | (refine spl ⟨?_, ?_⟩ <;> intro _))) <;> ((try simp -implicitDefEqProofs); (try simp -implicitDefEqProofs (disch := first | assumption | (try simp only [lens]); omega -splitDisjunctions)))))
    all_goals first | exact ih | (refine at2 ih ?_ ?_ <;> simp; done) | (exfalso; first | omega | (simp_all; done) | (simp_all; omega))
 all_goals first | exact main _ 0 (Nat.zero_add _) (fun j hj => by omega) | (refine at2 main _ 0 (Nat.zero_add _) (fun j hj => by omega) ?_ ?_ <;> simp; done) | (exfalso; first | omega | (simp_all; done) | (simp_all; omega))
def x110 : XC := .seq (.reg [⟨some 4,.assign (.const (.bool false)),none⟩]) (.seq (.reg [⟨some 5,.move (.tmp 0),none⟩,⟨some 6,.move (.tmp 1),none⟩,⟨some 7,.call ⟨.value (.func 140),#[.tmp 5,.tmp 6],#[22,61]⟩,none⟩,⟨some 8,.binOp .geq 3 (.tmp 7) (.const (.int .i64 0)) 3,none⟩,⟨some 4,.assign (.tmp 8),none⟩]) .ret)
@[simp] theorem x110_s {C e s K} : type_of% (@X_at C e s K _ _ x110.eq_1) := X_at x110.eq_1
def an110 : Ann := ⟨[], [], []⟩
theorem fi110 : FI Try.prog 110 (cxA an110) x110 [.tmp 4] Try.f110 := fiA Try.func110 mixed
theorem ContainsFunc_fms (l : List Fm) (hl : l.length ≤ 1000000) (fid : Nat) [EnT Try.prog fid] (ys : List PV) [hy : FlatL ys] (p : Fm → Bool) (h : ∀ a ∈ l, CallOK Try.prog fid (.agg (frm a) :: ys) [] (.bool (p a)) []) :
  CallOK Try.prog 110 [.list (l.map frm), .fn (.func fid) [] ys] [] (.bool (decide (0 ≤ placeP p l))) [] := by
 have hc := IndexFunc_fms l hl fid ys p h
 refine fi110.op ?_
 ((refine Sg.h ?_); try repeat' ((first | (with_reducible first | refine brA ?_ | refine brE fun _ => ?_ | (refine spl ⟨?_, ?_⟩ <;> intro _))) <;> ((try simp -implicitDefEqProofs); (try simp -implicitDefEqProofs (disch := first | assumption | (try simp only [lens]); omega -splitDisjunctions)))))
 refine CL.clo hc ?_ (by
  intro v hv
  rcases List.mem_cons.1 hv with rfl | hv
  ·exact closed_list _
  ·rw [List.mem_singleton.1 hv]; exact closed_fn (by simp) hy.closed)
 ((refine Sg.h ?_); try repeat' ((first | (with_reducible first | refine brA ?_ | refine brE fun _ => ?_ | (refine spl ⟨?_, ?_⟩ <;> intro _))) <;> ((try simp -implicitDefEqProofs); (try simp -implicitDefEqProofs (disch := first | assumption | (try simp only [lens]); omega -splitDisjunctions)))))
def x111 : XC := .seq (.reg [⟨some 2,.box 24 (.tmp 0),none⟩,⟨some 3,.assign (.const (.bool false)),none⟩]) (.seq (.reg [⟨some 4,.load 24 (.tmp 1),none⟩,⟨some 5,.load 24 (.tmp 2),none⟩,⟨some 6,.call ⟨.value (.func 106),#[.tmp 4,.tmp 5],#[24,24]⟩,none⟩,⟨some 3,.assign (.tmp 6),none⟩]) .ret)
@[simp] theorem x111_s {C e s K} : type_of% (@X_at C e s K _ _ x111.eq_1) := X_at x111.eq_1
def an111 : Ann := ⟨[], [], []⟩
theorem fi111 : FI Try.prog 111 (cxA an111) x111 [.tmp 3] Try.f111 := fiA Try.func111 mixed
theorem grow4_classic (f g : Fm) : CallOK Try.prog 111 [.agg (frm g), .iptr (frm f)] [] (.bool (sameB f g)) [] := by
 refine fi111.op ?_
 ((refine Sg.h ?_); try repeat' ((first | (with_reducible first | refine brA ?_ | refine brE fun _ => ?_ | (refine spl ⟨?_, ?_⟩ <;> intro _)) | refine clo (Same_formula f g) ?_) <;> ((try simp -implicitDefEqProofs); (try simp -implicitDefEqProofs (disch := first | assumption | (try simp only [lens]); omega -splitDisjunctions)))))
def x112 : XC := .seq (.reg [⟨some 4,.assign (.const (.int .i64 0)),none⟩]) (.seq (.reg [⟨some 5,.move (.tmp 0),none⟩,⟨some 6,.move (.tmp 1),none⟩,⟨some 7,.call ⟨.value (.func 140),#[.tmp 5,.tmp 6],#[22,61]⟩,none⟩,⟨some 4,.assign (.tmp 7),none⟩]) .ret)
@[simp] theorem x112_s {C e s K} : type_of% (@X_at C e s K _ _ x112.eq_1) := X_at x112.eq_1
def an112 : Ann := ⟨[], [], []⟩
theorem fi112 : FI Try.prog 112 (cxA an112) x112 [.tmp 4] Try.f112 := fiA Try.func112 mixed
theorem index_classic (l : List Fm) (hl : l.length ≤ 1000000) (fid : Nat) [EnT Try.prog fid] (p : Fm → Bool) (h : ∀ a ∈ l, CallOK Try.prog fid [.agg (frm a)] [] (.bool (p a)) []) :
  CallOK Try.prog 112 [.list (l.map frm), .fn (.func fid) [] []] [] (.int .i64 (placeP p l)) [] := by
 have hc := IndexFunc_fms l hl fid [] p h
 refine fi112.op ?_
 ((refine Sg.h ?_); try repeat' ((first | (with_reducible first | refine brA ?_ | refine brE fun _ => ?_ | (refine spl ⟨?_, ?_⟩ <;> intro _)) | refine clo hc ?_) <;> ((try simp -implicitDefEqProofs); (try simp -implicitDefEqProofs (disch := first | assumption | (try simp only [lens]); omega -splitDisjunctions)))))
def placeK (k : Int) (l : List Fm) : Int := placeP (fun f => decide (f.kind = k)) l
def x113 : XC := .seq (.reg [⟨some 1,.box 24 (.tmp 0),none⟩,⟨some 2,.assign (.const (.bool false)),none⟩]) (.seq (.reg [⟨some 3,.fieldAddr 24 (.tmp 1) 0,none⟩,⟨some 4,.load 3 (.tmp 3),none⟩,⟨some 5,.binOp .eql 3 (.tmp 4) (.const (.int .i64 5)) 3,none⟩,⟨some 2,.assign (.tmp 5),none⟩]) .ret)
@[simp] theorem x113_s {C e s K} : type_of% (@X_at C e s K _ _ x113.eq_1) := X_at x113.eq_1
def an113 : Ann := ⟨[], [], []⟩
theorem fi113 : FI Try.prog 113 (cxA an113) x113 [.tmp 2] Try.f113 := fiA Try.func113 mixed
theorem at5 (l : List Fm) (hl : l.length ≤ 1000000) : CallOK Try.prog 112 [.list (l.map frm), .fn (.func 113) [] []] [] (.int .i64 (placeK 5 l)) [] := index_classic l hl 113 _ fun f _ => by
 refine fi113.op ?_
 ((refine Sg.h ?_); try repeat' ((first | (with_reducible first | refine brA ?_ | refine brE fun _ => ?_ | (refine spl ⟨?_, ?_⟩ <;> intro _))) <;> ((try simp -implicitDefEqProofs); (try simp -implicitDefEqProofs (disch := first | assumption | (try simp only [lens]); omega -splitDisjunctions)))))
def x115 : XC := .seq (.reg [⟨some 1,.box 24 (.tmp 0),none⟩,⟨some 2,.assign (.const (.bool false)),none⟩]) (.seq (.reg [⟨some 3,.fieldAddr 24 (.tmp 1) 0,none⟩,⟨some 4,.load 3 (.tmp 3),none⟩,⟨some 5,.binOp .eql 3 (.tmp 4) (.const (.int .i64 4)) 3,none⟩,⟨some 2,.assign (.tmp 5),none⟩]) .ret)
@[simp] theorem x115_s {C e s K} : type_of% (@X_at C e s K _ _ x115.eq_1) := X_at x115.eq_1
def an115 : Ann := ⟨[], [], []⟩
theorem fi115 : FI Try.prog 115 (cxA an115) x115 [.tmp 2] Try.f115 := fiA Try.func115 mixed
theorem at6 (l : List Fm) (hl : l.length ≤ 1000000) : CallOK Try.prog 112 [.list (l.map frm), .fn (.func 115) [] []] [] (.int .i64 (placeK 4 l)) [] := index_classic l hl 115 _ fun f _ => by
 refine fi115.op ?_
 ((refine Sg.h ?_); try repeat' ((first | (with_reducible first | refine brA ?_ | refine brE fun _ => ?_ | (refine spl ⟨?_, ?_⟩ <;> intro _))) <;> ((try simp -implicitDefEqProofs); (try simp -implicitDefEqProofs (disch := first | assumption | (try simp only [lens]); omega -splitDisjunctions)))))
def x116 : XC := .seq (.reg [⟨some 1,.box 24 (.tmp 0),none⟩,⟨some 2,.assign (.const (.bool false)),none⟩]) (.seq (.reg [⟨some 3,.fieldAddr 24 (.tmp 1) 0,none⟩,⟨some 4,.load 3 (.tmp 3),none⟩,⟨some 5,.binOp .eql 3 (.tmp 4) (.const (.int .i64 6)) 3,none⟩,⟨some 2,.assign (.tmp 5),none⟩]) .ret)
@[simp] theorem x116_s {C e s K} : type_of% (@X_at C e s K _ _ x116.eq_1) := X_at x116.eq_1
def an116 : Ann := ⟨[], [], []⟩
theorem fi116 : FI Try.prog 116 (cxA an116) x116 [.tmp 2] Try.f116 := fiA Try.func116 mixed
theorem at7 (l : List Fm) (hl : l.length ≤ 1000000) : CallOK Try.prog 112 [.list (l.map frm), .fn (.func 116) [] []] [] (.int .i64 (placeK 6 l)) [] := index_classic l hl 116 _ fun f _ => by
 refine fi116.op ?_
 ((refine Sg.h ?_); try repeat' ((first | (with_reducible first | refine brA ?_ | refine brE fun _ => ?_ | (refine spl ⟨?_, ?_⟩ <;> intro _))) <;> ((try simp -implicitDefEqProofs); (try simp -implicitDefEqProofs (disch := first | assumption | (try simp only [lens]); omega -splitDisjunctions)))))
def x117 : XC := .seq (.reg [⟨some 1,.box 24 (.tmp 0),none⟩,⟨some 2,.assign (.const (.bool false)),none⟩]) (.seq (.reg [⟨some 3,.fieldAddr 24 (.tmp 1) 0,none⟩,⟨some 4,.load 3 (.tmp 3),none⟩,⟨some 5,.binOp .eql 3 (.tmp 4) (.const (.int .i64 4)) 3,none⟩,⟨some 2,.assign (.tmp 5),none⟩]) .ret)
@[simp] theorem x117_s {C e s K} : type_of% (@X_at C e s K _ _ x117.eq_1) := X_at x117.eq_1
def an117 : Ann := ⟨[], [], []⟩
theorem fi117 : FI Try.prog 117 (cxA an117) x117 [.tmp 2] Try.f117 := fiA Try.func117 mixed
theorem at8 (l : List Fm) (hl : l.length ≤ 1000000) : CallOK Try.prog 112 [.list (l.map frm), .fn (.func 117) [] []] [] (.int .i64 (placeK 4 l)) [] := index_classic l hl 117 _ fun f _ => by
 refine fi117.op ?_
 ((refine Sg.h ?_); try repeat' ((first | (with_reducible first | refine brA ?_ | refine brE fun _ => ?_ | (refine spl ⟨?_, ?_⟩ <;> intro _))) <;> ((try simp -implicitDefEqProofs); (try simp -implicitDefEqProofs (disch := first | assumption | (try simp only [lens]); omega -splitDisjunctions)))))
def x118 : XC := .seq (.reg [⟨some 1,.box 24 (.tmp 0),none⟩,⟨some 2,.assign (.const (.bool false)),none⟩]) (.seq (.reg [⟨some 3,.fieldAddr 24 (.tmp 1) 0,none⟩,⟨some 4,.load 3 (.tmp 3),none⟩,⟨some 5,.binOp .eql 3 (.tmp 4) (.const (.int .i64 7)) 3,none⟩,⟨some 2,.assign (.tmp 5),none⟩]) .ret)
@[simp] theorem x118_s {C e s K} : type_of% (@X_at C e s K _ _ x118.eq_1) := X_at x118.eq_1
def an118 : Ann := ⟨[], [], []⟩
theorem fi118 : FI Try.prog 118 (cxA an118) x118 [.tmp 2] Try.f118 := fiA Try.func118 mixed
theorem at9 (l : List Fm) (hl : l.length ≤ 1000000) : CallOK Try.prog 112 [.list (l.map frm), .fn (.func 118) [] []] [] (.int .i64 (placeK 7 l)) [] := index_classic l hl 118 _ fun f _ => by
 refine fi118.op ?_
 ((refine Sg.h ?_); try repeat' ((first | (with_reducible first | refine brA ?_ | refine brE fun _ => ?_ | (refine spl ⟨?_, ?_⟩ <;> intro _))) <;> ((try simp -implicitDefEqProofs); (try simp -implicitDefEqProofs (disch := first | assumption | (try simp only [lens]); omega -splitDisjunctions)))))
def x119 : XC := .seq (.reg [⟨some 1,.box 24 (.tmp 0),none⟩,⟨some 2,.assign (.const (.bool false)),none⟩]) (.seq (.reg [⟨some 3,.fieldAddr 24 (.tmp 1) 0,none⟩,⟨some 4,.load 3 (.tmp 3),none⟩,⟨some 5,.binOp .eql 3 (.tmp 4) (.const (.int .i64 5)) 3,none⟩,⟨some 2,.assign (.tmp 5),none⟩]) .ret)
@[simp] theorem x119_s {C e s K} : type_of% (@X_at C e s K _ _ x119.eq_1) := X_at x119.eq_1
def an119 : Ann := ⟨[], [], []⟩
theorem fi119 : FI Try.prog 119 (cxA an119) x119 [.tmp 2] Try.f119 := fiA Try.func119 mixed
theorem at10 (l : List Fm) (hl : l.length ≤ 1000000) : CallOK Try.prog 112 [.list (l.map frm), .fn (.func 119) [] []] [] (.int .i64 (placeK 5 l)) [] := index_classic l hl 119 _ fun f _ => by
 refine fi119.op ?_
 ((refine Sg.h ?_); try repeat' ((first | (with_reducible first | refine brA ?_ | refine brE fun _ => ?_ | (refine spl ⟨?_, ?_⟩ <;> intro _))) <;> ((try simp -implicitDefEqProofs); (try simp -implicitDefEqProofs (disch := first | assumption | (try simp only [lens]); omega -splitDisjunctions)))))
def x120 : XC := .seq (.reg [⟨some 1,.box 24 (.tmp 0),none⟩,⟨some 2,.assign (.const (.bool false)),none⟩]) (.seq (.reg [⟨some 3,.fieldAddr 24 (.tmp 1) 0,none⟩,⟨some 4,.load 3 (.tmp 3),none⟩,⟨some 5,.binOp .eql 3 (.tmp 4) (.const (.int .i64 6)) 3,none⟩,⟨some 2,.assign (.tmp 5),none⟩]) .ret)
@[simp] theorem x120_s {C e s K} : type_of% (@X_at C e s K _ _ x120.eq_1) := X_at x120.eq_1
def an120 : Ann := ⟨[], [], []⟩
theorem fi120 : FI Try.prog 120 (cxA an120) x120 [.tmp 2] Try.f120 := fiA Try.func120 mixed
theorem at11 (l : List Fm) (hl : l.length ≤ 1000000) : CallOK Try.prog 112 [.list (l.map frm), .fn (.func 120) [] []] [] (.int .i64 (placeK 6 l)) [] := index_classic l hl 120 _ fun f _ => by
 refine fi120.op ?_
 ((refine Sg.h ?_); try repeat' ((first | (with_reducible first | refine brA ?_ | refine brE fun _ => ?_ | (refine spl ⟨?_, ?_⟩ <;> intro _))) <;> ((try simp -implicitDefEqProofs); (try simp -implicitDefEqProofs (disch := first | assumption | (try simp only [lens]); omega -splitDisjunctions)))))
def x121 : XC := .seq (.reg [⟨some 1,.box 24 (.tmp 0),none⟩,⟨some 2,.assign (.const (.bool false)),none⟩]) (.seq (.reg [⟨some 3,.fieldAddr 24 (.tmp 1) 0,none⟩,⟨some 4,.load 3 (.tmp 3),none⟩,⟨some 5,.binOp .eql 3 (.tmp 4) (.const (.int .i64 7)) 3,none⟩,⟨some 2,.assign (.tmp 5),none⟩]) .ret)
@[simp] theorem x121_s {C e s K} : type_of% (@X_at C e s K _ _ x121.eq_1) := X_at x121.eq_1
def an121 : Ann := ⟨[], [], []⟩
theorem fi121 : FI Try.prog 121 (cxA an121) x121 [.tmp 2] Try.f121 := fiA Try.func121 mixed
theorem at12 (l : List Fm) (hl : l.length ≤ 1000000) : CallOK Try.prog 112 [.list (l.map frm), .fn (.func 121) [] []] [] (.int .i64 (placeK 7 l)) [] := index_classic l hl 121 _ fun f _ => by
 refine fi121.op ?_
 ((refine Sg.h ?_); try repeat' ((first | (with_reducible first | refine brA ?_ | refine brE fun _ => ?_ | (refine spl ⟨?_, ?_⟩ <;> intro _))) <;> ((try simp -implicitDefEqProofs); (try simp -implicitDefEqProofs (disch := first | assumption | (try simp only [lens]); omega -splitDisjunctions)))))
def x109 : XC := .seq (.reg [⟨some 4,.alloc 26,none⟩]) (.seq (.reg [⟨some 5,.move (.tmp 0),none⟩,⟨some 6,.move (.tmp 1),none⟩,⟨some 7,.build 26 #[(0,.tmp 5),(1,.tmp 6)],none⟩,⟨none,.store 26 (.tmp 4) (.tmp 7),none⟩]) .ret)
@[simp] theorem x109_s {C e s K} : type_of% (@X_at C e s K _ _ x109.eq_1) := X_at x109.eq_1
def an109 : Ann := ⟨[], [], []⟩
theorem fi109 : FI Try.prog 109 (cxA an109) x109 [.cell 4 26] Try.f109 := fiA Try.func109 mixed
theorem grow3_classic (l r : List Fm) : CallOK Try.prog 109 [.list (l.map frm), .list (r.map frm)] [] (.agg [.list (l.map frm), .list (r.map frm)]) [] := by
 refine fi109.op ?_
 ((refine Sg.h ?_); try repeat' ((first | (with_reducible first | refine brA ?_ | refine brE fun _ => ?_ | (refine spl ⟨?_, ?_⟩ <;> intro _))) <;> ((try simp -implicitDefEqProofs); (try simp -implicitDefEqProofs (disch := first | assumption | (try simp only [lens]); omega -splitDisjunctions)))))
end Go.Proofs.Ytnoklmapofogeaa
namespace Go.Proofs.Ytnoklmapofogeaa
open Go Go.Pv
structure Ent where
 fid : Nat
 ys : List PV
 R : Fm → List Fm → List Fm → List Prem × Bool
abbrev Tab := List (ByteArray × Ent)
def lookT (T : Tab) (a : ByteArray) : Option Ent := (T.find? fun p => decide (a = p.1)).map (·.2)
theorem putP_none {a v : PV} {es : List (PV × PV)} : putP a v es none = es ++ [(a, v)] := rfl
theorem lookT_mem {T : Tab} {a : ByteArray} {e : Ent} (h : lookT T a = some e) : ∃ p ∈ T, p.2 = e := by
 unfold lookT at h
 obtain ⟨p, h1, h2⟩ := Option.map_eq_some_iff.1 h
 exact ⟨p, List.mem_of_find?_eq_some h1, h2⟩
noncomputable def sharedT : Tab := [(⟨#[97, 120]⟩, ⟨145, [], axR⟩), (⟨#[116, 114, 117, 101]⟩, ⟨146, [], trueR⟩), (⟨#[102, 97, 108, 115, 101]⟩, ⟨148, [], falseR⟩), (⟨#[97, 110, 100, 45, 108]⟩, ⟨149, [], andLR⟩), (⟨#[97, 110, 100, 45, 114]⟩, ⟨151, [], andRR⟩), (⟨#[111, 114, 45, 108]⟩, ⟨152, [], orLR⟩), (⟨#[116, 104, 101, 110, 45, 114]⟩, ⟨153, [], thenRR⟩), (⟨#[110, 111, 116, 45, 114]⟩, ⟨154, [], notRR⟩), (⟨#[99, 111, 110, 116, 114, 45, 108]⟩, ⟨155, [], contrLR⟩)]
noncomputable def classT : Tab := [(⟨#[111, 114, 45, 114]⟩, ⟨156, [], orRR⟩), (⟨#[116, 104, 101, 110, 45, 108]⟩, ⟨157, [], thenLR⟩), (⟨#[110, 111, 116, 45, 108]⟩, ⟨158, [], notLR⟩), (⟨#[99, 111, 110, 116, 114, 45, 114]⟩, ⟨159, [], contrRR⟩), (⟨#[99, 117, 116]⟩, ⟨160, [], cutCR⟩)]
noncomputable def intuT : Tab := [(⟨#[111, 114, 45, 114, 49]⟩, ⟨178, [.iptr [.int .i64 (0 : Int)]], (sideR 0)⟩), (⟨#[111, 114, 45, 114, 50]⟩, ⟨178, [.iptr [.int .i64 (1 : Int)]], (sideR 1)⟩), (⟨#[116, 104, 101, 110, 45, 108]⟩, ⟨162, [], thenIR⟩), (⟨#[110, 111, 116, 45, 108]⟩, ⟨163, [], notIR⟩), (⟨#[99, 117, 116]⟩, ⟨164, [], cutIR⟩)]
attribute [local irreducible] X
end Go.Proofs.Ytnoklmapofogeaa
