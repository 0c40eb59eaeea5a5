/-
  sequentlaw.ModalShapes, told without memory.
-/
import Derived.Test.YtbmpmmbcfabeeaaMdP
import Derived.Test.YtbmpmmbcfabeeaaMdF
namespace Go.Proofs.Ytbmpmmbcfabeeaa
open Go Go.Pv
set_option linter.unusedVariables false
set_option linter.unusedSimpArgs false
set_option maxRecDepth 100000
set_option maxHeartbeats 4000000

def x50 : XC := .seq (.reg [⟨some 2,.alloc 24,none⟩]) (.seq (.reg [⟨some 3,.move (.tmp 0),none⟩,⟨some 4,.build 24 #[(0,.const (.int .i64 1)),(1,.tmp 3)],none⟩,⟨none,.store 24 (.tmp 2) (.tmp 4),none⟩]) (.ret))
@[simp] theorem x50_s {C : WC} {e : AE} {s : Store} {K : KS} : type_of% (@X_at C e s K _ _ x50.eq_1) := X_at x50.eq_1
def an50 : Ann := ⟨[], [], []⟩
def cx50 (P : Program) (m : Nat) : WC := ⟨P, m, an50⟩
@[simp] theorem cx50_a {P : Program} {m : Nat} : (cx50 P m).P = P ∧ (cx50 P m).m = m := ⟨rfl, rfl⟩
instance {P : Program} {m f : Nat} [h : EnT P f] : EnT (cx50 P m).P f := h
theorem chk50 : ∀ c, Try.f50.body = some c → chkC Try.f50.ntmps an50 c = true := by intro c h; obtain rfl := Option.some.inj h; decide +kernel
theorem os50 {args : List PV} {v : PV} (h : X (cx50 Try.prog 0) x50 (argsA 0 args) [] (.fin [.cell 2 24] fun v1 s1 => softV (deref s1 6 v1) = v)) (hl : args.length ≤ Try.f50.ntmps := by rw [Try.ntmps50]; simp) : CallOK Try.prog 50 args [] v [] :=
  callXF (m := 0) (cx50 Try.prog 0) x50 rfl rfl (by kernel_rfl) Try.func50 rfl rfl hl mixed (chk50 _ rfl) (by rw [Try.results50]; exact h)

theorem named_law (nm : ByteArray) : CallOK Try.prog 50 [.str nm] [] (.agg (frm (.mk 1 nm []))) [] := by
  refine os50 ?_
  ((try simp (implicitDefEqProofs := false) (disch := first | assumption | (try simp only [lens]); omega -splitDisjunctions)); all_goals try (repeat' ((first | ((with_reducible first | refine And.intro ?_ ?_ | refine Exists.intro ?_ ?_); first | omega | (simp <;> omega)) | (with_reducible refine spl (And.intro ?_ ?_) <;> intro _)) <;> (try simp (implicitDefEqProofs := false) (disch := first | assumption | (try simp only [lens]); omega -splitDisjunctions)))))
  rw [frm_eq]; rfl
theorem frm_three (f : Fm) : ∃ k n l, frm f = [.int .i64 k, .str n, .list l] := ⟨_, _, _, frm_eq f⟩
theorem _root_.Go.Pv.CT.ev {C : WC} {d : Option Tmp} {fid : FuncId} {vs : List PV} {e : AE} {s : Store} {K : KS} {v : PV} {t : RT} [EnT C.P fid] (hc : ∀ s, CallOK C.P fid vs s v s) (hk : TR C t (updA e d v) s K) : CT C d (some (fid, vs)) t e s K := ⟨fid, vs, v, s, rfl, EnT.h, hc s, hk⟩
def x9_L0 : XC := .seq (.seq (.reg [⟨some 57,.move (.tmp 9),none⟩,⟨some 58,.binOp .lss 3 (.tmp 57) (.const (.int .i64 6)) 3,none⟩]) (.cond (.tmp 58) (.skip) (.exit 0))) (.seq (.block 1 (.seq (.drawn 12 [⟨some 62,.load 61 (.tmp 1),none⟩,⟨some 63,.move (.tmp 8),none⟩,⟨some 64,.move (.tmp 9),none⟩,⟨some 65,.indexAddr 22 (.tmp 63) (.tmp 64),none⟩,⟨some 66,.load 24 (.tmp 65),none⟩,⟨some 67,.call ⟨.value (.func 40),#[.tmp 62,.tmp 66],#[61,24]⟩,none⟩,⟨some 61,.move (.tmp 67),none⟩,⟨some 68,.extract (.tmp 61) 0,none⟩,⟨some 69,.extract (.tmp 61) 1,none⟩,⟨some 11,.alloc 29,none⟩,⟨some 10,.assign (.tmp 68),none⟩,⟨none,.store 29 (.tmp 11) (.tmp 69),none⟩]) (.seq (.reg [⟨some 70,.fieldAddr 29 (.tmp 11) 0,none⟩,⟨some 71,.load 3 (.tmp 70),none⟩,⟨some 72,.binOp .neq 3 (.tmp 71) (.const (.int .i64 0)) 3,none⟩,⟨some 73,.move (.tmp 72),none⟩,⟨some 74,.move (.tmp 10),some (some 73,false)⟩,⟨some 75,.move (.tmp 9),some (some 73,false)⟩,⟨some 76,.indexAddr 67 (.tmp 3) (.tmp 75),some (some 73,false)⟩,⟨some 77,.load 4 (.tmp 76),some (some 73,false)⟩,⟨some 78,.binOp .neq 4 (.tmp 74) (.tmp 77) 4,some (some 73,false)⟩,⟨some 79,.pick (.tmp 73) (.const (.bool true)) (.tmp 78),none⟩]) (.cond (.tmp 79) (.seq (.reg [⟨some 2,.assign (.const (.bool false)),none⟩]) (.ret)) (.skip))))) (.reg [⟨some 59,.move (.tmp 9),none⟩,⟨some 60,.binOp .add 3 (.tmp 59) (.const (.int .i64 1)) 3,none⟩,⟨some 9,.assign (.tmp 60),none⟩]))
def x9 : XC := .seq (.reg [⟨some 1,.box 61 (.tmp 0),none⟩,⟨some 2,.assign (.const (.bool false)),none⟩]) (.seq (.seq (.reg [⟨some 12,.call ⟨.value (.func 37),#[],#[]⟩,none⟩,⟨some 13,.unOp .not 4 (.tmp 12),none⟩]) (.cond (.tmp 13) (.seq (.reg [⟨some 2,.assign (.const (.bool false)),none⟩]) (.ret)) (.skip))) (.seq (.reg [⟨some 15,.load 61 (.tmp 1),none⟩,⟨some 16,.call ⟨.value (.func 41),#[.tmp 15],#[61]⟩,none⟩,⟨some 14,.move (.tmp 16),none⟩,⟨some 17,.extract (.tmp 14) 0,none⟩,⟨some 18,.extract (.tmp 14) 1,none⟩,⟨some 3,.alloc 67,none⟩,⟨some 4,.alloc 29,none⟩,⟨none,.store 67 (.tmp 3) (.tmp 17),none⟩,⟨none,.store 29 (.tmp 4) (.tmp 18),none⟩]) (.seq (.seq (.reg [⟨some 19,.fieldAddr 29 (.tmp 4) 0,none⟩,⟨some 20,.load 3 (.tmp 19),none⟩,⟨some 21,.binOp .neq 3 (.tmp 20) (.const (.int .i64 0)) 3,none⟩,⟨some 22,.move (.tmp 21),none⟩,⟨some 23,.fieldAddr 61 (.tmp 1) 0,some (some 22,false)⟩,⟨some 24,.load 3 (.tmp 23),some (some 22,false)⟩,⟨some 25,.binOp .gtr 3 (.tmp 24) (.const (.int .i64 8)) 3,some (some 22,false)⟩,⟨some 26,.pick (.tmp 22) (.const (.bool true)) (.tmp 25),none⟩]) (.cond (.tmp 26) (.seq (.reg [⟨some 2,.assign (.const (.bool true)),none⟩]) (.ret)) (.skip))) (.seq (.reg [⟨some 27,.call ⟨.value (.func 50),#[.const (.string ⟨#[112]⟩)],#[9]⟩,none⟩,⟨some 5,.alloc 24,none⟩,⟨none,.store 24 (.tmp 5) (.tmp 27),none⟩]) (.seq (.drawn 7 [⟨some 28,.load 24 (.tmp 5),none⟩,⟨some 29,.call ⟨.value (.func 51),#[.const (.int .i64 8),.tmp 28],#[3,24]⟩,none⟩,⟨some 30,.load 24 (.tmp 5),none⟩,⟨some 31,.call ⟨.value (.func 51),#[.const (.int .i64 9),.tmp 30],#[3,24]⟩,none⟩,⟨some 6,.alloc 24,none⟩,⟨some 7,.alloc 24,none⟩,⟨none,.store 24 (.tmp 6) (.tmp 29),none⟩,⟨none,.store 24 (.tmp 7) (.tmp 31),none⟩]) (.seq (.drawn 8 [⟨some 32,.load 24 (.tmp 6),none⟩,⟨some 33,.load 24 (.tmp 5),none⟩,⟨some 34,.call ⟨.value (.func 36),#[.const (.int .i64 7),.tmp 32,.tmp 33],#[3,24,24]⟩,none⟩,⟨some 35,.load 24 (.tmp 6),none⟩,⟨some 36,.load 24 (.tmp 6),none⟩,⟨some 37,.call ⟨.value (.func 51),#[.const (.int .i64 8),.tmp 36],#[3,24]⟩,none⟩,⟨some 38,.call ⟨.value (.func 36),#[.const (.int .i64 7),.tmp 35,.tmp 37],#[3,24,24]⟩,none⟩,⟨some 39,.load 24 (.tmp 5),none⟩,⟨some 40,.load 24 (.tmp 7),none⟩,⟨some 41,.call ⟨.value (.func 51),#[.const (.int .i64 8),.tmp 40],#[3,24]⟩,none⟩,⟨some 42,.call ⟨.value (.func 36),#[.const (.int .i64 7),.tmp 39,.tmp 41],#[3,24,24]⟩,none⟩,⟨some 43,.load 24 (.tmp 7),none⟩,⟨some 44,.load 24 (.tmp 7),none⟩,⟨some 45,.call ⟨.value (.func 51),#[.const (.int .i64 8),.tmp 44],#[3,24]⟩,none⟩,⟨some 46,.call ⟨.value (.func 36),#[.const (.int .i64 7),.tmp 43,.tmp 45],#[3,24,24]⟩,none⟩,⟨some 47,.load 24 (.tmp 6),none⟩,⟨some 48,.load 24 (.tmp 7),none⟩,⟨some 49,.call ⟨.value (.func 36),#[.const (.int .i64 7),.tmp 47,.tmp 48],#[3,24,24]⟩,none⟩,⟨some 50,.load 24 (.tmp 6),none⟩,⟨some 51,.load 24 (.tmp 5),none⟩,⟨some 52,.call ⟨.value (.func 36),#[.const (.int .i64 7),.tmp 50,.tmp 51],#[3,24,24]⟩,none⟩,⟨some 53,.call ⟨.value (.func 51),#[.const (.int .i64 8),.tmp 52],#[3,24]⟩,none⟩,⟨some 54,.load 24 (.tmp 6),none⟩,⟨some 55,.call ⟨.value (.func 36),#[.const (.int .i64 7),.tmp 53,.tmp 54],#[3,24,24]⟩,none⟩,⟨some 56,.buildSlice 22 6 #[(0,.tmp 34),(1,.tmp 38),(2,.tmp 42),(3,.tmp 46),(4,.tmp 49),(5,.tmp 55)],none⟩,⟨some 8,.assign (.tmp 56),none⟩]) (.seq (.seq (.reg [⟨some 9,.assign (.const (.int .i64 0)),none⟩]) (.bloop 0 x9_L0)) (.seq (.reg [⟨some 2,.assign (.const (.bool true)),none⟩]) (.ret)))))))))
@[simp] theorem x9_s {C : WC} {e : AE} {s : Store} {K : KS} : type_of% (@X_at C e s K _ _ x9_L0.eq_1) ∧ type_of% (@X_at C e s K _ _ x9.eq_1) := ⟨X_at x9_L0.eq_1, X_at x9.eq_1⟩
def an9 : Ann := ⟨[(7, .tree (.op 0 (.op 2 (.br (.op 1 (.ck 2 (.br (.op 3 (.br (.op 4 (.op 5 (.op 6 (.op 7 .fin)))) (.op 5 (.op 4 (.op 6 (.op 7 .fin)))))) (.br (.op 4 (.ck 2 (.br (.op 3 (.op 5 (.op 6 (.op 7 .fin)))) (.op 5 (.ck 2 (.op 3 (.op 6 (.op 7 .fin)))))))) (.op 5 (.ck 2 (.br (.op 3 (.op 4 (.op 6 (.op 7 .fin)))) (.op 4 (.ck 2 (.op 3 (.op 6 (.op 7 .fin)))))))))))) (.br (.op 4 (.ck 0 (.ck 2 (.br (.op 1 (.ck 2 (.br (.op 3 (.op 5 (.op 6 (.op 7 .fin)))) (.op 5 (.ck 2 (.op 3 (.op 6 (.op 7 .fin)))))))) (.op 5 (.ck 0 (.ck 2 (.op 1 (.ck 2 (.op 3 (.op 6 (.op 7 .fin)))))))))))) (.op 5 (.ck 0 (.ck 2 (.br (.op 1 (.ck 2 (.br (.op 3 (.op 4 (.op 6 (.op 7 .fin)))) (.op 4 (.ck 2 (.op 3 (.op 6 (.op 7 .fin)))))))) (.op 4 (.ck 0 (.ck 2 (.op 1 (.ck 2 (.op 3 (.op 6 (.op 7 .fin))))))))))))))))), (8, .mix 23), (12, .mix 11)], [(0, [], [1, 3, 8, 9], [2])], []⟩
def cx9 (P : Program) (m : Nat) : WC := ⟨P, m, an9⟩
@[simp] theorem cx9_a {P : Program} {m : Nat} : (cx9 P m).P = P ∧ (cx9 P m).m = m ∧ (cx9 P m).A.clsOf 7 = .tree (.op 0 (.op 2 (.br (.op 1 (.ck 2 (.br (.op 3 (.br (.op 4 (.op 5 (.op 6 (.op 7 .fin)))) (.op 5 (.op 4 (.op 6 (.op 7 .fin)))))) (.br (.op 4 (.ck 2 (.br (.op 3 (.op 5 (.op 6 (.op 7 .fin)))) (.op 5 (.ck 2 (.op 3 (.op 6 (.op 7 .fin)))))))) (.op 5 (.ck 2 (.br (.op 3 (.op 4 (.op 6 (.op 7 .fin)))) (.op 4 (.ck 2 (.op 3 (.op 6 (.op 7 .fin)))))))))))) (.br (.op 4 (.ck 0 (.ck 2 (.br (.op 1 (.ck 2 (.br (.op 3 (.op 5 (.op 6 (.op 7 .fin)))) (.op 5 (.ck 2 (.op 3 (.op 6 (.op 7 .fin)))))))) (.op 5 (.ck 0 (.ck 2 (.op 1 (.ck 2 (.op 3 (.op 6 (.op 7 .fin)))))))))))) (.op 5 (.ck 0 (.ck 2 (.br (.op 1 (.ck 2 (.br (.op 3 (.op 4 (.op 6 (.op 7 .fin)))) (.op 4 (.ck 2 (.op 3 (.op 6 (.op 7 .fin)))))))) (.op 4 (.ck 0 (.ck 2 (.op 1 (.ck 2 (.op 3 (.op 6 (.op 7 .fin)))))))))))))))) ∧ (cx9 P m).A.clsOf 8 = .mix 23 ∧ (cx9 P m).A.clsOf 12 = .mix 11 ∧ (cx9 P m).A.frzOf 7 = [] ∧ (cx9 P m).A.frzOf 8 = [] ∧ (cx9 P m).A.frzOf 12 = [] ∧ (cx9 P m).A.loopOf 0 = ([], [1, 3, 8, 9], [2]) := ⟨rfl, rfl, rfl, rfl, rfl, rfl, rfl, rfl, rfl⟩
instance {P : Program} {m f : Nat} [h : EnT P f] : EnT (cx9 P m).P f := h
theorem chk9 : ∀ c, Try.f9.body = some c → chkC Try.f9.ntmps an9 c = true := by intro c h; obtain rfl := Option.some.inj h; decide +kernel
theorem op9 {args : List PV} {v : PV} (h : X (cx9 Try.prog 0) x9 (argsA 0 args) [] (.fin [.tmp 2] fun v1 s1 => deref s1 6 v1 = v)) (hl : args.length ≤ Try.f9.ntmps := by rw [Try.ntmps9]; simp) : CallOK Try.prog 9 args [] v [] :=
  callX (m := 0) (cx9 Try.prog 0) x9 rfl rfl (by kernel_rfl) Try.func9 rfl rfl hl mixed (chk9 _ rfl) (by rw [Try.results9]; exact h)

theorem modalShapes_law (m : Mdl) : CallOK Try.prog 9 [.agg (mdl m)] [] (.bool true) [] := by
  have hb := modalBegun_law []
  have hs := Shape_modal m
  have hn : CallOK Try.prog 50 [.str ⟨#[112]⟩] [] (.agg (frm fP)) [] := named_law nP
  have ho := fun k f s => of_law k f s
  have hbo := fun k f g s => both_law k f g s
  have o1 : ∀ s, CallOK Try.prog 51 [.int .i64 8, .agg (frm fP)] s (.agg (frm (of1 8 fP))) s := ho 8 fP
  have o2 : ∀ s, CallOK Try.prog 51 [.int .i64 9, .agg (frm fP)] s (.agg (frm (of1 9 fP))) s := ho 9 fP
  have o3 : ∀ s, CallOK Try.prog 51 [.int .i64 8, .agg (frm (of1 8 fP))] s (.agg (frm (of1 8 (of1 8 fP)))) s := ho 8 _
  have o4 : ∀ s, CallOK Try.prog 51 [.int .i64 8, .agg (frm (of1 9 fP))] s (.agg (frm (of1 8 (of1 9 fP)))) s := ho 8 _
  have b0 : ∀ s, CallOK Try.prog 36 [.int .i64 7, .agg (frm (of1 8 fP)), .agg (frm fP)] s (.agg (frm (shF 0))) s := hbo 7 _ _
  have b1 : ∀ s, CallOK Try.prog 36 [.int .i64 7, .agg (frm (of1 8 fP)), .agg (frm (of1 8 (of1 8 fP)))] s (.agg (frm (shF 1))) s := hbo 7 _ _
  have b2 : ∀ s, CallOK Try.prog 36 [.int .i64 7, .agg (frm fP), .agg (frm (of1 8 (of1 9 fP)))] s (.agg (frm (shF 2))) s := hbo 7 _ _
  have b3 : ∀ s, CallOK Try.prog 36 [.int .i64 7, .agg (frm (of1 9 fP)), .agg (frm (of1 8 (of1 9 fP)))] s (.agg (frm (shF 3))) s := hbo 7 _ _
  have b4 : ∀ s, CallOK Try.prog 36 [.int .i64 7, .agg (frm (of1 8 fP)), .agg (frm (of1 9 fP))] s (.agg (frm (shF 4))) s := hbo 7 _ _
  have o5 : ∀ s, CallOK Try.prog 51 [.int .i64 8, .agg (frm (shF 0))] s (.agg (frm (of1 8 (shF 0)))) s := ho 8 _
  have b5 : ∀ s, CallOK Try.prog 36 [.int .i64 7, .agg (frm (of1 8 (shF 0))), .agg (frm (of1 8 fP))] s (.agg (frm (shF 5))) s := hbo 7 _ _
  have hh := fun i => Holds_modal m (shF i)
  have hv := fun i hi hc hn => holds_shF m i hi hc hn
  clear ho hbo
  simp only [mdl] at hs hh
  refine op9 ?_
  by_cases hz : (kripkeCheck m).1 = 0
  · unfold shapeR at hs
    rw [if_pos hz, kripkeCheck_zero hz] at hs
    by_cases h8 : m.n ≤ 8
    · have hx : ∃ x0 x1 x2 x3 x4 x5, shapeL m.n.toNat (fun i j => sees m.rel i j) = [x0, x1, x2, x3, x4, x5] := ⟨_, _, _, _, _, _, rfl⟩
      obtain ⟨x0, x1, x2, x3, x4, x5, hx⟩ := hx
      have hv := fun i hi => hv i hi hz h8
      unfold shapeAt at hv
      rw [hx] at hs hv
      have h0 := hh 0
      have h1 := hh 1
      have h2 := hh 2
      have h3 := hh 3
      have h4 := hh 4
      have h5 := hh 5
      rw [hv 0 (by omega)] at h0
      rw [hv 1 (by omega)] at h1
      rw [hv 2 (by omega)] at h2
      rw [hv 3 (by omega)] at h3
      rw [hv 4 (by omega)] at h4
      rw [hv 5 (by omega)] at h5
      clear hh hv hx
      simp only [List.getElem?_cons_zero, List.getElem?_cons_succ, Option.getD_some] at h0 h1 h2 h3 h4 h5
      generalize shF 0 = f0 at *
      generalize shF 1 = f1 at *
      generalize shF 2 = f2 at *
      generalize shF 3 = f3 at *
      generalize shF 4 = f4 at *
      generalize shF 5 = f5 at *
      generalize of1 8 f0 = f6 at *
      generalize of1 8 (of1 8 fP) = f7 at *
      generalize of1 8 (of1 9 fP) = f8 at *
      generalize of1 8 fP = f9 at *
      generalize of1 9 fP = f10 at *
      generalize fP = f11 at *
      obtain ⟨n, E, L⟩ := m
      simp only at h8 hs h0 h1 h2 h3 h4 h5 ⊢
      have h8' : ¬ (8 : Int) < n := by omega
      simp only [mdl]
      obtain ⟨k0, n0, l0, e0⟩ := frm_three f0
      obtain ⟨k1, n1, l1, e1⟩ := frm_three f1
      obtain ⟨k2, n2, l2, e2⟩ := frm_three f2
      obtain ⟨k3, n3, l3, e3⟩ := frm_three f3
      obtain ⟨k4, n4, l4, e4⟩ := frm_three f4
      obtain ⟨k5, n5, l5, e5⟩ := frm_three f5
      obtain ⟨k6, n6, l6, e6⟩ := frm_three f6
      obtain ⟨k7, n7, l7, e7⟩ := frm_three f7
      obtain ⟨k8, n8, l8, e8⟩ := frm_three f8
      obtain ⟨k9, n9, l9, e9⟩ := frm_three f9
      obtain ⟨k10, n10, l10, e10⟩ := frm_three f10
      obtain ⟨k11, n11, l11, e11⟩ := frm_three f11
      simp only [e0, e1, e2, e3, e4, e5, e6, e7, e8, e9, e10, e11] at *
      clear e0 e1 e2 e3 e4 e5 e6 e7 e8 e9 e10 e11
      have key : W (cx9 Try.prog 0) 0 x9_L0 (KS.seq ((XC.reg [{ d := some 2, op := Op.assign (Operand.const (Value.bool true)), g := none }]).seq XC.ret) (KS.fin [ResultVar.tmp 2] fun v1 s1 => deref s1 6 v1 = PV.bool true)) [(1, .ptr 0 0 0), (3, .ptr 1 0 0), (8, .sl 2 0 6), (9, .int .i64 0)] [.rows 3 [[.int .i64 n, .list (List.map relRow E), .list (List.map strsRow L)]], .rows 6 [[.bool x0, .bool x1, .bool x2, .bool x3, .bool x4, .bool x5]], .rows 3 [[.int .i64 k0, .str n0, .list l0], [.int .i64 k1, .str n1, .list l1], [.int .i64 k2, .str n2, .list l2], [.int .i64 k3, .str n3, .list l3], [.int .i64 k4, .str n4, .list l4], [.int .i64 k5, .str n5, .list l5]]] := by
        clear hb hs hn o1 o2 o3 o4 o5 b0 b1 b2 b3 b4 b5
        refine W_of fun Q hQ => ?_
        have q6 : Q [(1, .ptr 0 0 0), (3, .ptr 1 0 0), (8, .sl 2 0 6), (9, .int .i64 6)] [.rows 3 [[.int .i64 n, .list (List.map relRow E), .list (List.map strsRow L)]], .rows 6 [[.bool x0, .bool x1, .bool x2, .bool x3, .bool x4, .bool x5]], .rows 3 [[.int .i64 k0, .str n0, .list l0], [.int .i64 k1, .str n1, .list l1], [.int .i64 k2, .str n2, .list l2], [.int .i64 k3, .str n3, .list l3], [.int .i64 k4, .str n4, .list l4], [.int .i64 k5, .str n5, .list l5]]] := by
          apply hQ
          (((try simp (implicitDefEqProofs := false)); (try simp (implicitDefEqProofs := false) (disch := first | assumption | (try simp only [lens]); omega -splitDisjunctions))); all_goals try (repeat' ((first | ((with_reducible first | refine And.intro ?_ ?_ | refine Exists.intro ?_ ?_); first | omega | (simp <;> omega)) | (with_reducible refine spl (And.intro ?_ ?_) <;> intro _)) <;> ((try simp (implicitDefEqProofs := false)); (try simp (implicitDefEqProofs := false) (disch := first | assumption | (try simp only [lens]); omega -splitDisjunctions))))))
        have q5 : Q [(1, .ptr 0 0 0), (3, .ptr 1 0 0), (8, .sl 2 0 6), (9, .int .i64 5)] [.rows 3 [[.int .i64 n, .list (List.map relRow E), .list (List.map strsRow L)]], .rows 6 [[.bool x0, .bool x1, .bool x2, .bool x3, .bool x4, .bool x5]], .rows 3 [[.int .i64 k0, .str n0, .list l0], [.int .i64 k1, .str n1, .list l1], [.int .i64 k2, .str n2, .list l2], [.int .i64 k3, .str n3, .list l3], [.int .i64 k4, .str n4, .list l4], [.int .i64 k5, .str n5, .list l5]]] := by
          apply hQ
          (((try simp (implicitDefEqProofs := false)); (try simp (implicitDefEqProofs := false) (disch := first | assumption | (try simp only [lens]); omega -splitDisjunctions))); all_goals try (repeat' ((first | ((with_reducible first | refine And.intro ?_ ?_ | refine Exists.intro ?_ ?_); first | omega | (simp <;> omega)) | (with_reducible refine spl (And.intro ?_ ?_) <;> intro _) | (refine CL.clo (h5) ?_) | (refine CM.clo (h5) ?_) | (refine CD.clo (h5) ?_)) <;> ((try simp (implicitDefEqProofs := false)); (try simp (implicitDefEqProofs := false) (disch := first | assumption | (try simp only [lens]); omega -splitDisjunctions))))))
          all_goals all_goals first | exact q6 | (refine at2 q6 ?_ ?_ <;> simp; done) | (exfalso; first | omega | (simp_all; done) | (simp_all; omega))
        have q4 : Q [(1, .ptr 0 0 0), (3, .ptr 1 0 0), (8, .sl 2 0 6), (9, .int .i64 4)] [.rows 3 [[.int .i64 n, .list (List.map relRow E), .list (List.map strsRow L)]], .rows 6 [[.bool x0, .bool x1, .bool x2, .bool x3, .bool x4, .bool x5]], .rows 3 [[.int .i64 k0, .str n0, .list l0], [.int .i64 k1, .str n1, .list l1], [.int .i64 k2, .str n2, .list l2], [.int .i64 k3, .str n3, .list l3], [.int .i64 k4, .str n4, .list l4], [.int .i64 k5, .str n5, .list l5]]] := by
          apply hQ
          (((try simp (implicitDefEqProofs := false)); (try simp (implicitDefEqProofs := false) (disch := first | assumption | (try simp only [lens]); omega -splitDisjunctions))); all_goals try (repeat' ((first | ((with_reducible first | refine And.intro ?_ ?_ | refine Exists.intro ?_ ?_); first | omega | (simp <;> omega)) | (with_reducible refine spl (And.intro ?_ ?_) <;> intro _) | (refine CL.clo (h4) ?_) | (refine CM.clo (h4) ?_) | (refine CD.clo (h4) ?_)) <;> ((try simp (implicitDefEqProofs := false)); (try simp (implicitDefEqProofs := false) (disch := first | assumption | (try simp only [lens]); omega -splitDisjunctions))))))
          all_goals all_goals first | exact q5 | (refine at2 q5 ?_ ?_ <;> simp; done) | (exfalso; first | omega | (simp_all; done) | (simp_all; omega))
        have q3 : Q [(1, .ptr 0 0 0), (3, .ptr 1 0 0), (8, .sl 2 0 6), (9, .int .i64 3)] [.rows 3 [[.int .i64 n, .list (List.map relRow E), .list (List.map strsRow L)]], .rows 6 [[.bool x0, .bool x1, .bool x2, .bool x3, .bool x4, .bool x5]], .rows 3 [[.int .i64 k0, .str n0, .list l0], [.int .i64 k1, .str n1, .list l1], [.int .i64 k2, .str n2, .list l2], [.int .i64 k3, .str n3, .list l3], [.int .i64 k4, .str n4, .list l4], [.int .i64 k5, .str n5, .list l5]]] := by
          apply hQ
          (((try simp (implicitDefEqProofs := false)); (try simp (implicitDefEqProofs := false) (disch := first | assumption | (try simp only [lens]); omega -splitDisjunctions))); all_goals try (repeat' ((first | ((with_reducible first | refine And.intro ?_ ?_ | refine Exists.intro ?_ ?_); first | omega | (simp <;> omega)) | (with_reducible refine spl (And.intro ?_ ?_) <;> intro _) | (refine CL.clo (h3) ?_) | (refine CM.clo (h3) ?_) | (refine CD.clo (h3) ?_)) <;> ((try simp (implicitDefEqProofs := false)); (try simp (implicitDefEqProofs := false) (disch := first | assumption | (try simp only [lens]); omega -splitDisjunctions))))))
          all_goals all_goals first | exact q4 | (refine at2 q4 ?_ ?_ <;> simp; done) | (exfalso; first | omega | (simp_all; done) | (simp_all; omega))
        have q2 : Q [(1, .ptr 0 0 0), (3, .ptr 1 0 0), (8, .sl 2 0 6), (9, .int .i64 2)] [.rows 3 [[.int .i64 n, .list (List.map relRow E), .list (List.map strsRow L)]], .rows 6 [[.bool x0, .bool x1, .bool x2, .bool x3, .bool x4, .bool x5]], .rows 3 [[.int .i64 k0, .str n0, .list l0], [.int .i64 k1, .str n1, .list l1], [.int .i64 k2, .str n2, .list l2], [.int .i64 k3, .str n3, .list l3], [.int .i64 k4, .str n4, .list l4], [.int .i64 k5, .str n5, .list l5]]] := by
          apply hQ
          (((try simp (implicitDefEqProofs := false)); (try simp (implicitDefEqProofs := false) (disch := first | assumption | (try simp only [lens]); omega -splitDisjunctions))); all_goals try (repeat' ((first | ((with_reducible first | refine And.intro ?_ ?_ | refine Exists.intro ?_ ?_); first | omega | (simp <;> omega)) | (with_reducible refine spl (And.intro ?_ ?_) <;> intro _) | (refine CL.clo (h2) ?_) | (refine CM.clo (h2) ?_) | (refine CD.clo (h2) ?_)) <;> ((try simp (implicitDefEqProofs := false)); (try simp (implicitDefEqProofs := false) (disch := first | assumption | (try simp only [lens]); omega -splitDisjunctions))))))
          all_goals all_goals first | exact q3 | (refine at2 q3 ?_ ?_ <;> simp; done) | (exfalso; first | omega | (simp_all; done) | (simp_all; omega))
        have q1 : Q [(1, .ptr 0 0 0), (3, .ptr 1 0 0), (8, .sl 2 0 6), (9, .int .i64 1)] [.rows 3 [[.int .i64 n, .list (List.map relRow E), .list (List.map strsRow L)]], .rows 6 [[.bool x0, .bool x1, .bool x2, .bool x3, .bool x4, .bool x5]], .rows 3 [[.int .i64 k0, .str n0, .list l0], [.int .i64 k1, .str n1, .list l1], [.int .i64 k2, .str n2, .list l2], [.int .i64 k3, .str n3, .list l3], [.int .i64 k4, .str n4, .list l4], [.int .i64 k5, .str n5, .list l5]]] := by
          apply hQ
          (((try simp (implicitDefEqProofs := false)); (try simp (implicitDefEqProofs := false) (disch := first | assumption | (try simp only [lens]); omega -splitDisjunctions))); all_goals try (repeat' ((first | ((with_reducible first | refine And.intro ?_ ?_ | refine Exists.intro ?_ ?_); first | omega | (simp <;> omega)) | (with_reducible refine spl (And.intro ?_ ?_) <;> intro _) | (refine CL.clo (h1) ?_) | (refine CM.clo (h1) ?_) | (refine CD.clo (h1) ?_)) <;> ((try simp (implicitDefEqProofs := false)); (try simp (implicitDefEqProofs := false) (disch := first | assumption | (try simp only [lens]); omega -splitDisjunctions))))))
          all_goals all_goals first | exact q2 | (refine at2 q2 ?_ ?_ <;> simp; done) | (exfalso; first | omega | (simp_all; done) | (simp_all; omega))
        have q0 : Q [(1, .ptr 0 0 0), (3, .ptr 1 0 0), (8, .sl 2 0 6), (9, .int .i64 0)] [.rows 3 [[.int .i64 n, .list (List.map relRow E), .list (List.map strsRow L)]], .rows 6 [[.bool x0, .bool x1, .bool x2, .bool x3, .bool x4, .bool x5]], .rows 3 [[.int .i64 k0, .str n0, .list l0], [.int .i64 k1, .str n1, .list l1], [.int .i64 k2, .str n2, .list l2], [.int .i64 k3, .str n3, .list l3], [.int .i64 k4, .str n4, .list l4], [.int .i64 k5, .str n5, .list l5]]] := by
          apply hQ
          (((try simp (implicitDefEqProofs := false)); (try simp (implicitDefEqProofs := false) (disch := first | assumption | (try simp only [lens]); omega -splitDisjunctions))); all_goals try (repeat' ((first | ((with_reducible first | refine And.intro ?_ ?_ | refine Exists.intro ?_ ?_); first | omega | (simp <;> omega)) | (with_reducible refine spl (And.intro ?_ ?_) <;> intro _) | (refine CL.clo (h0) ?_) | (refine CM.clo (h0) ?_) | (refine CD.clo (h0) ?_)) <;> ((try simp (implicitDefEqProofs := false)); (try simp (implicitDefEqProofs := false) (disch := first | assumption | (try simp only [lens]); omega -splitDisjunctions))))))
          all_goals all_goals first | exact q1 | (refine at2 q1 ?_ ?_ <;> simp; done) | (exfalso; first | omega | (simp_all; done) | (simp_all; omega))
        all_goals first | exact q0 | (refine at2 q0 ?_ ?_ <;> simp; done) | (exfalso; first | omega | (simp_all; done) | (simp_all; omega))
      (((try simp (implicitDefEqProofs := false) [h8']); (try simp (implicitDefEqProofs := false) (disch := first | assumption | (try simp only [lens]); omega -splitDisjunctions) [h8'])); all_goals try (repeat' ((first | ((with_reducible first | refine And.intro ?_ ?_ | refine Exists.intro ?_ ?_); first | omega | (simp <;> omega)) | (with_reducible refine spl (And.intro ?_ ?_) <;> intro _) | (refine CL.clo (hb) ?_) | (refine CM.clo (hb) ?_) | (refine CD.clo (hb) ?_) | (refine CL.clo (hs) ?_) | (refine CM.clo (hs) ?_) | (refine CD.clo (hs) ?_)) <;> ((try simp (implicitDefEqProofs := false) [h8']); (try simp (implicitDefEqProofs := false) (disch := first | assumption | (try simp only [lens]); omega -splitDisjunctions) [h8'])))))
      (((try simp (implicitDefEqProofs := false)); (try simp (implicitDefEqProofs := false) (disch := first | assumption | (try simp only [lens]); omega -splitDisjunctions))); all_goals try (repeat' ((first | ((with_reducible first | refine And.intro ?_ ?_ | refine Exists.intro ?_ ?_); first | omega | (simp <;> omega)) | (with_reducible refine spl (And.intro ?_ ?_) <;> intro _) | (refine CL.clo (hn) ?_) | (refine CM.clo (hn) ?_) | (refine CD.clo (hn) ?_)) <;> ((try simp (implicitDefEqProofs := false)); (try simp (implicitDefEqProofs := false) (disch := first | assumption | (try simp only [lens]); omega -splitDisjunctions))))))
      repeat' (first | (refine And.intro ?_ ?_) | (refine CT.ev o1 ?_; (((try simp (implicitDefEqProofs := false)); (try simp (implicitDefEqProofs := false) (disch := first | assumption | (try simp only [lens]); omega -splitDisjunctions))); all_goals try (repeat' ((first | ((with_reducible first | refine And.intro ?_ ?_ | refine Exists.intro ?_ ?_); first | omega | (simp <;> omega)) | (with_reducible refine spl (And.intro ?_ ?_) <;> intro _)) <;> ((try simp (implicitDefEqProofs := false)); (try simp (implicitDefEqProofs := false) (disch := first | assumption | (try simp only [lens]); omega -splitDisjunctions))))))) | (refine CT.ev o2 ?_; (((try simp (implicitDefEqProofs := false)); (try simp (implicitDefEqProofs := false) (disch := first | assumption | (try simp only [lens]); omega -splitDisjunctions))); all_goals try (repeat' ((first | ((with_reducible first | refine And.intro ?_ ?_ | refine Exists.intro ?_ ?_); first | omega | (simp <;> omega)) | (with_reducible refine spl (And.intro ?_ ?_) <;> intro _)) <;> ((try simp (implicitDefEqProofs := false)); (try simp (implicitDefEqProofs := false) (disch := first | assumption | (try simp only [lens]); omega -splitDisjunctions))))))))
      all_goals
        (((try simp (implicitDefEqProofs := false)); (try simp (implicitDefEqProofs := false) (disch := first | assumption | (try simp only [lens]); omega -splitDisjunctions))); all_goals try (repeat' ((first | ((with_reducible first | refine And.intro ?_ ?_ | refine Exists.intro ?_ ?_); first | omega | (simp <;> omega)) | (with_reducible refine spl (And.intro ?_ ?_) <;> intro _) | (refine CL.of (o3 _) ?_) | (refine CD.of (o3 _) ?_) | (refine CM.of (o3) ?_) | (refine CT.ev (o3) ?_) | (refine CL.of (o4 _) ?_) | (refine CD.of (o4 _) ?_) | (refine CM.of (o4) ?_) | (refine CT.ev (o4) ?_) | (refine CL.of (o5 _) ?_) | (refine CD.of (o5 _) ?_) | (refine CM.of (o5) ?_) | (refine CT.ev (o5) ?_) | (refine CL.of (b0 _) ?_) | (refine CD.of (b0 _) ?_) | (refine CM.of (b0) ?_) | (refine CT.ev (b0) ?_) | (refine CL.of (b1 _) ?_) | (refine CD.of (b1 _) ?_) | (refine CM.of (b1) ?_) | (refine CT.ev (b1) ?_) | (refine CL.of (b2 _) ?_) | (refine CD.of (b2 _) ?_) | (refine CM.of (b2) ?_) | (refine CT.ev (b2) ?_) | (refine CL.of (b3 _) ?_) | (refine CD.of (b3 _) ?_) | (refine CM.of (b3) ?_) | (refine CT.ev (b3) ?_) | (refine CL.of (b4 _) ?_) | (refine CD.of (b4 _) ?_) | (refine CM.of (b4) ?_) | (refine CT.ev (b4) ?_) | (refine CL.of (b5 _) ?_) | (refine CD.of (b5 _) ?_) | (refine CM.of (b5) ?_) | (refine CT.ev (b5) ?_)) <;> ((try simp (implicitDefEqProofs := false)); (try simp (implicitDefEqProofs := false) (disch := first | assumption | (try simp only [lens]); omega -splitDisjunctions))))))
        exact key
    · have h8' : (8 : Int) < m.n := by omega
      have hx : ∃ x0 x1 x2 x3 x4 x5, shapeL m.n.toNat (fun i j => sees m.rel i j) = [x0, x1, x2, x3, x4, x5] := ⟨_, _, _, _, _, _, rfl⟩
      obtain ⟨x0, x1, x2, x3, x4, x5, hx⟩ := hx
      rw [hx] at hs
      clear hx hh hv
      simp only [mdl]
      (((try simp (implicitDefEqProofs := false) [h8']); (try simp (implicitDefEqProofs := false) (disch := first | assumption | (try simp only [lens]); omega -splitDisjunctions) [h8'])); all_goals try (repeat' ((first | ((with_reducible first | refine And.intro ?_ ?_ | refine Exists.intro ?_ ?_); first | omega | (simp <;> omega)) | (with_reducible refine spl (And.intro ?_ ?_) <;> intro _) | (refine CL.clo (hb) ?_) | (refine CM.clo (hb) ?_) | (refine CD.clo (hb) ?_) | (refine CL.clo (hs) ?_) | (refine CM.clo (hs) ?_) | (refine CD.clo (hs) ?_)) <;> ((try simp (implicitDefEqProofs := false) [h8']); (try simp (implicitDefEqProofs := false) (disch := first | assumption | (try simp only [lens]); omega -splitDisjunctions) [h8'])))))
  · unfold shapeR at hs
    rw [if_neg hz] at hs
    clear hh hv
    generalize kripkeCheck m = w at hs hz
    simp only [mdl]
    (((try simp (implicitDefEqProofs := false) [hz]); (try simp (implicitDefEqProofs := false) (disch := first | assumption | (try simp only [lens]); omega -splitDisjunctions) [hz])); all_goals try (repeat' ((first | ((with_reducible first | refine And.intro ?_ ?_ | refine Exists.intro ?_ ?_); first | omega | (simp <;> omega)) | (with_reducible refine spl (And.intro ?_ ?_) <;> intro _) | (refine CL.clo (hb) ?_) | (refine CM.clo (hb) ?_) | (refine CD.clo (hb) ?_) | (refine CL.clo (hs) ?_) | (refine CM.clo (hs) ?_) | (refine CD.clo (hs) ?_)) <;> ((try simp (implicitDefEqProofs := false) [hz]); (try simp (implicitDefEqProofs := false) (disch := first | assumption | (try simp only [lens]); omega -splitDisjunctions) [hz])))))
end Go.Proofs.Ytbmpmmbcfabeeaa
