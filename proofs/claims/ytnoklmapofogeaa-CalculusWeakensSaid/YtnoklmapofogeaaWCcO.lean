/-
  law03: everywhere, withAll, instead.
-/
import Derived.Test.YtnoklmapofogeaaWCcN
namespace Go.Proofs.Ytnoklmapofogeaa
open Go Go.Pv
set_option linter.unusedVariables false
set_option linter.unusedSimpArgs false
set_option maxRecDepth 100000
set_option maxHeartbeats 4000000

section
variable {C : WC} {d : Option Tmp} {fid : FuncId} {vs : List PV} {e : AE} {s s2 : Store} {K : KS} {v : PV} {t : RT}
theorem CT.sub [EnT C.P fid] (ρ : List Nat) (hc : CallOK C.P fid (vs.map (renN ρ 4)) (liveS ρ s ρ) v s2) (hk : TR C t (updA e d (upN (ρ ++ List.range' s.length (s2.length - ρ.length)) 4 v)) (backS ρ s s2) K)
    (hnd : ρ.Nodup := by simp) (hin : ∀ i ∈ ρ, i < s.length := by simp) (hlen : ρ.length ≤ s2.length := by simp) : CT C d (some (fid, vs)) t e s K := by
  refine ⟨fid, vs, _, _, rfl, EnT.h, CallOK.sub ρ hnd hin hlen ?_, hk⟩
  have : ∀ L : List Nat, liveS ρ s L = L.map fun i => renObj ρ ((s[i]?).getD .dead) := by
    intro L; induction L with
    | nil => rfl
    | cons i r ih => rw [liveS, ih]; rfl
  rwa [← this]
end
/-- branches that join: what is left of the first is what is left of all -/
structure Hold (p : Prop) : Prop where
  h : p
theorem joinK {K g : Prop} (h : Hold K → g) (k : K) : g := h ⟨k⟩
def everyP (f : Fm) (p : Pf) : Pf := turnP id [f] p
theorem everyP_eq (f : Fm) (p : Pf) : everyP f p = .mk p.rule p.f (p.l ++ [f]) p.r (p.kids.map (everyP f)) := by
  unfold everyP; rw [turnP_eq, List.map_id, List.map_id]; rfl
def x22_T1 : XC := .seq (.reg [⟨some 42,.load 29 (.tmp 5),none⟩,⟨none,.store 29 (.tmp 4) (.tmp 42),none⟩]) (.ret)
def x22_L0 : XC := .seq (.seq (.reg [⟨some 23,.move (.tmp 6),none⟩,⟨some 24,.fieldAddr 29 (.tmp 2) 3,none⟩,⟨some 25,.load 27 (.tmp 24),none⟩,⟨some 26,.call ⟨.builtin .len,#[.tmp 25],#[27]⟩,none⟩,⟨some 27,.binOp .lss 3 (.tmp 23) (.tmp 26) 3,none⟩]) (.cond (.tmp 27) (.skip) (.exit 0))) (.seq (.block 1 (.drawn 5 [⟨some 30,.fieldAddr 29 (.tmp 5) 3,none⟩,⟨some 31,.load 27 (.tmp 30),none⟩,⟨some 32,.fieldAddr 29 (.tmp 2) 3,none⟩,⟨some 33,.load 27 (.tmp 32),none⟩,⟨some 34,.move (.tmp 6),none⟩,⟨some 35,.indexAddr 27 (.tmp 33) (.tmp 34),none⟩,⟨some 36,.load 29 (.tmp 35),none⟩,⟨some 37,.load 24 (.tmp 3),none⟩,⟨some 38,.call ⟨.value (.func 22),#[.tmp 36,.tmp 37],#[29,24]⟩,none⟩,⟨some 39,.buildSlice 27 1 #[(0,.tmp 38)],none⟩,⟨some 40,.call ⟨.builtin .append,#[.tmp 31,.tmp 39],#[27,27]⟩,none⟩,⟨some 41,.fieldAddr 29 (.tmp 5) 3,none⟩,⟨none,.store 27 (.tmp 41) (.tmp 40),none⟩])) (.reg [⟨some 28,.move (.tmp 6),none⟩,⟨some 29,.binOp .add 3 (.tmp 28) (.const (.int .i64 1)) 3,none⟩,⟨some 6,.assign (.tmp 29),none⟩]))
def x22 : XC := .seq (.reg [⟨some 2,.box 29 (.tmp 0),none⟩,⟨some 3,.box 24 (.tmp 1),none⟩,⟨some 4,.alloc 29,none⟩]) (.seq (.drawn 1 [⟨some 7,.fieldAddr 29 (.tmp 2) 0,none⟩,⟨some 8,.load 9 (.tmp 7),none⟩,⟨some 9,.fieldAddr 29 (.tmp 2) 1,none⟩,⟨some 10,.load 24 (.tmp 9),none⟩,⟨some 11,.fieldAddr 29 (.tmp 2) 2,none⟩,⟨some 12,.fieldAddr 26 (.tmp 11) 0,none⟩,⟨some 13,.load 22 (.tmp 12),none⟩,⟨some 14,.call ⟨.value (.func 57),#[.tmp 13],#[22]⟩,none⟩,⟨some 15,.load 24 (.tmp 3),none⟩,⟨some 16,.buildSlice 22 1 #[(0,.tmp 15)],none⟩,⟨some 17,.call ⟨.builtin .append,#[.tmp 14,.tmp 16],#[22,22]⟩,none⟩,⟨some 18,.fieldAddr 29 (.tmp 2) 2,none⟩,⟨some 19,.fieldAddr 26 (.tmp 18) 1,none⟩,⟨some 20,.load 22 (.tmp 19),none⟩,⟨some 21,.build 26 #[(0,.tmp 17),(1,.tmp 20)],none⟩,⟨some 22,.build 29 #[(0,.tmp 8),(1,.tmp 10),(2,.tmp 21)],none⟩,⟨some 5,.alloc 29,none⟩,⟨none,.store 29 (.tmp 5) (.tmp 22),none⟩]) (.seq (.seq (.reg [⟨some 6,.assign (.const (.int .i64 0)),none⟩]) (.bloop 0 x22_L0)) (x22_T1)))
@[simp] theorem x22_s {C : WC} {e : AE} {s : Store} {K : KS} : type_of% (@X_at C e s K _ _ x22_T1.eq_1) ∧ type_of% (@X_at C e s K _ _ x22_L0.eq_1) ∧ type_of% (@X_at C e s K _ _ x22.eq_1) := ⟨X_at x22_T1.eq_1, X_at x22_L0.eq_1, X_at x22.eq_1⟩
def an22 : Ann := ⟨[(1, .tree (.op 0 (.op 1 (.op 2 (.op 3 (.op 4 (.op 5 (.op 6 (.op 8 (.op 11 (.op 12 (.op 13 (.br (.op 7 (.ck 1 (.ck 3 (.ck 8 (.ck 13 (.br (.op 9 (.ck 1 (.ck 3 (.ck 13 (.br (.op 10 (.ck 1 (.ck 3 (.ck 13 (.op 14 (.op 15 (.op 16 (.ck 1 (.ck 3 (.ck 13 (.ck 14 (.ck 15 (.op 17 .fin))))))))))))) (.op 16 (.ck 1 (.ck 3 (.ck 13 (.op 10 (.ck 1 (.ck 3 (.ck 13 (.op 14 (.op 15 (.op 17 .fin)))))))))))))))) (.op 16 (.ck 1 (.ck 3 (.ck 8 (.ck 13 (.op 9 (.ck 1 (.ck 3 (.ck 13 (.op 10 (.ck 1 (.ck 3 (.ck 13 (.op 14 (.op 15 (.op 17 .fin)))))))))))))))))))))) (.br (.op 9 (.ck 1 (.ck 3 (.ck 6 (.ck 13 (.br (.op 7 (.ck 1 (.ck 3 (.ck 13 (.br (.op 10 (.ck 1 (.ck 3 (.ck 13 (.op 14 (.op 15 (.op 16 (.ck 1 (.ck 3 (.ck 13 (.ck 14 (.ck 15 (.op 17 .fin))))))))))))) (.op 16 (.ck 1 (.ck 3 (.ck 13 (.op 10 (.ck 1 (.ck 3 (.ck 13 (.op 14 (.op 15 (.op 17 .fin)))))))))))))))) (.op 16 (.ck 1 (.ck 3 (.ck 6 (.ck 13 (.op 7 (.ck 1 (.ck 3 (.ck 13 (.op 10 (.ck 1 (.ck 3 (.ck 13 (.op 14 (.op 15 (.op 17 .fin)))))))))))))))))))))) (.op 16 (.ck 1 (.ck 3 (.ck 6 (.ck 8 (.ck 13 (.br (.op 7 (.ck 1 (.ck 3 (.ck 8 (.ck 13 (.op 9 (.ck 1 (.ck 3 (.ck 13 (.op 10 (.ck 1 (.ck 3 (.ck 13 (.op 14 (.op 15 (.op 17 .fin)))))))))))))))) (.op 9 (.ck 1 (.ck 3 (.ck 6 (.ck 13 (.op 7 (.ck 1 (.ck 3 (.ck 13 (.op 10 (.ck 1 (.ck 3 (.ck 13 (.op 14 (.op 15 (.op 17 .fin))))))))))))))))))))))))))))))))))))), (5, .mix 10)], [(0, [(5, some 6, 7), (5, some 5005, 0)], [2, 3, 4, 5, 6], [4, 5])], []⟩
def cx22 (P : Program) (m : Nat) : WC := ⟨P, m, an22⟩
@[simp] theorem cx22_a {P : Program} {m : Nat} : (cx22 P m).P = P ∧ (cx22 P m).m = m ∧ (cx22 P m).A.clsOf 1 = .tree (.op 0 (.op 1 (.op 2 (.op 3 (.op 4 (.op 5 (.op 6 (.op 8 (.op 11 (.op 12 (.op 13 (.br (.op 7 (.ck 1 (.ck 3 (.ck 8 (.ck 13 (.br (.op 9 (.ck 1 (.ck 3 (.ck 13 (.br (.op 10 (.ck 1 (.ck 3 (.ck 13 (.op 14 (.op 15 (.op 16 (.ck 1 (.ck 3 (.ck 13 (.ck 14 (.ck 15 (.op 17 .fin))))))))))))) (.op 16 (.ck 1 (.ck 3 (.ck 13 (.op 10 (.ck 1 (.ck 3 (.ck 13 (.op 14 (.op 15 (.op 17 .fin)))))))))))))))) (.op 16 (.ck 1 (.ck 3 (.ck 8 (.ck 13 (.op 9 (.ck 1 (.ck 3 (.ck 13 (.op 10 (.ck 1 (.ck 3 (.ck 13 (.op 14 (.op 15 (.op 17 .fin)))))))))))))))))))))) (.br (.op 9 (.ck 1 (.ck 3 (.ck 6 (.ck 13 (.br (.op 7 (.ck 1 (.ck 3 (.ck 13 (.br (.op 10 (.ck 1 (.ck 3 (.ck 13 (.op 14 (.op 15 (.op 16 (.ck 1 (.ck 3 (.ck 13 (.ck 14 (.ck 15 (.op 17 .fin))))))))))))) (.op 16 (.ck 1 (.ck 3 (.ck 13 (.op 10 (.ck 1 (.ck 3 (.ck 13 (.op 14 (.op 15 (.op 17 .fin)))))))))))))))) (.op 16 (.ck 1 (.ck 3 (.ck 6 (.ck 13 (.op 7 (.ck 1 (.ck 3 (.ck 13 (.op 10 (.ck 1 (.ck 3 (.ck 13 (.op 14 (.op 15 (.op 17 .fin)))))))))))))))))))))) (.op 16 (.ck 1 (.ck 3 (.ck 6 (.ck 8 (.ck 13 (.br (.op 7 (.ck 1 (.ck 3 (.ck 8 (.ck 13 (.op 9 (.ck 1 (.ck 3 (.ck 13 (.op 10 (.ck 1 (.ck 3 (.ck 13 (.op 14 (.op 15 (.op 17 .fin)))))))))))))))) (.op 9 (.ck 1 (.ck 3 (.ck 6 (.ck 13 (.op 7 (.ck 1 (.ck 3 (.ck 13 (.op 10 (.ck 1 (.ck 3 (.ck 13 (.op 14 (.op 15 (.op 17 .fin)))))))))))))))))))))))))))))))))))) ∧ (cx22 P m).A.clsOf 5 = .mix 10 ∧ (cx22 P m).A.frzOf 1 = [] ∧ (cx22 P m).A.frzOf 5 = [] ∧ (cx22 P m).A.loopOf 0 = ([(5, some 6, 7), (5, some 5005, 0)], [2, 3, 4, 5, 6], [4, 5]) := ⟨rfl, rfl, rfl, rfl, rfl, rfl, rfl⟩
instance {P : Program} {m f : Nat} [h : EnT P f] : EnT (cx22 P m).P f := h
theorem chk22 : ∀ c, Try.f22.body = some c → chkC Try.f22.ntmps an22 c = true := by intro c h; obtain rfl := Option.some.inj h; decide +kernel
theorem op22 {args : List PV} {v : PV} (h : X (cx22 Try.prog 0) x22 (argsA 0 args) [] (.fin [.cell 4 29] fun v1 s1 => deref s1 6 v1 = v)) (hl : args.length ≤ Try.f22.ntmps := by rw [Try.ntmps22]; simp) : CallOK Try.prog 22 args [] v [] :=
  callX (m := 0) (cx22 Try.prog 0) x22 rfl rfl (by kernel_rfl) Try.func22 rfl rfl hl mixed (chk22 _ rfl) (by rw [Try.results22]; exact h)

theorem everywhere_law (f : Fm) (p : Pf) : ∀ d, vastP p d = false → CallOK Try.prog 22 [.agg (prf p), .agg (frm f)] [] (.agg (prf (everyP f p))) [] := by
  induction p using Pf.ind with
  | h p ih =>
    intro d hd
    obtain ⟨v1, v2, v3, v4, v5, v6, v7⟩ := vastP_all hd
    have ho := ownList_own p.l (by omega) v5
    have hpf := frm_eq p.f
    have ht : (p.l.map frm ++ [frm f]).take (p.l.length + 1) = p.l.map frm ++ [frm f] := List.take_of_length_le (by simp)
    refine op22 ?_
    rw [everyP_eq, prf_eq (Pf.mk _ _ _ _ _)]
    simp only [pf_mk]
    generalize hE : p.kids.map (everyP f) = E
    refine joinK (K := ?K) ?_ ?_
    rotate_left 1
    · intro key
      (((try simp (implicitDefEqProofs := false) [hpf, ht]); (try simp (implicitDefEqProofs := false) (disch := first | assumption | (try simp only [lens]); omega -splitDisjunctions) [hpf, ht])); all_goals try (repeat' ((first | ((with_reducible first | refine And.intro ?_ ?_ | refine Exists.intro ?_ ?_); first | omega | (simp <;> omega)) | (with_reducible refine spl (And.intro ?_ ?_) <;> intro _)) <;> ((try simp (implicitDefEqProofs := false) [hpf, ht]); (try simp (implicitDefEqProofs := false) (disch := first | assumption | (try simp only [lens]); omega -splitDisjunctions) [hpf, ht])))))
      repeat' (first | (refine And.intro ?_ ?_) | (refine CT.sub [] (hc := by simpa using ho) ?_; (((try simp (implicitDefEqProofs := false) [hpf, ht]); (try simp (implicitDefEqProofs := false) (disch := first | assumption | (try simp only [lens]); omega -splitDisjunctions) [hpf, ht])); all_goals try (repeat' ((first | ((with_reducible first | refine And.intro ?_ ?_ | refine Exists.intro ?_ ?_); first | omega | (simp <;> omega)) | (with_reducible refine spl (And.intro ?_ ?_) <;> intro _)) <;> ((try simp (implicitDefEqProofs := false) [hpf, ht]); (try simp (implicitDefEqProofs := false) (disch := first | assumption | (try simp only [lens]); omega -splitDisjunctions) [hpf, ht])))))))
      all_goals first | exact key.h | omega
    · refine W_of fun Q hQ => ?_
      have main : ∀ n i, i + n = p.kids.length → Q [(2, .ptr 0 0 0), (3, .ptr 1 0 0), (4, .ptr 2 0 0), (5, .ptr 3 0 0), (6, .int .i64 (i : Int))] [.rows 7 [prf p], .rows 3 [frm f], .rows 7 [[.str ⟨#[]⟩, .int .i64 0, .str ⟨#[]⟩, .nilsl, .nilsl, .nilsl, .nilsl]], .rows 7 [[.str p.rule, .int .i64 p.f.kind, .str p.f.name, .list (p.f.kids.map frm), .list (p.l.map frm ++ [frm f]), .list (p.r.map frm), .sl 4 0 (E.take i).length]], .rows 7 ((E.take i).map prf)] := by
        intro n
        induction n with
        | zero =>
          intro i hi
          obtain rfl : i = p.kids.length := by omega
          rw [show E.take p.kids.length = E from by rw [← hE]; exact List.take_of_length_le (by simp)]
          apply hQ
          clear hQ
          (((try simp (implicitDefEqProofs := false)); (try simp (implicitDefEqProofs := false) (disch := first | assumption | (try simp only [lens]); omega -splitDisjunctions))); all_goals try (repeat' ((first | ((with_reducible first | refine And.intro ?_ ?_ | refine Exists.intro ?_ ?_); first | omega | (simp <;> omega)) | (with_reducible refine spl (And.intro ?_ ?_) <;> intro _)) <;> ((try simp (implicitDefEqProofs := false)); (try simp (implicitDefEqProofs := false) (disch := first | assumption | (try simp only [lens]); omega -splitDisjunctions))))))
        | succ n ihn =>
          intro i hi
          have hil : i < p.kids.length := by omega
          have ihn := ihn (i + 1) (by omega)
          have hc := ih p.kids[i] (List.getElem_mem hil) _ (v7 _ (List.getElem_mem hil))
          have hiE : i < E.length := by rw [← hE, List.length_map]; exact hil
          have hEi : everyP f p.kids[i] = E[i] := by simp [← hE]
          have hlen : (E.take i).length = i := by rw [List.length_take]; omega
          rw [take_snoc hiE] at ihn
          rw [hEi] at hc
          generalize E.take i = T at *
          generalize E[i] = X at *
          apply hQ
          clear hQ
          (((try simp (implicitDefEqProofs := false) [hil]); (try simp (implicitDefEqProofs := false) (disch := first | assumption | (try simp only [lens]); omega -splitDisjunctions) [hil])); all_goals try (repeat' ((first | ((with_reducible first | refine And.intro ?_ ?_ | refine Exists.intro ?_ ?_); first | omega | (simp <;> omega)) | (with_reducible refine spl (And.intro ?_ ?_) <;> intro _) | (refine CL.clo (hc) ?_) | (refine CM.clo (hc) ?_) | (refine CD.clo (hc) ?_)) <;> ((try simp (implicitDefEqProofs := false) [hil]); (try simp (implicitDefEqProofs := false) (disch := first | assumption | (try simp only [lens]); omega -splitDisjunctions) [hil])))))
          all_goals first | exact ihn | (refine at2 ihn ?_ ?_ <;> simp; done) | (exfalso; first | omega | (simp_all; done) | (simp_all; omega))
      all_goals first | exact main _ 0 (Nat.zero_add _) | (refine at2 main _ 0 (Nat.zero_add _) ?_ ?_ <;> simp; done) | (exfalso; first | omega | (simp_all; done) | (simp_all; omega))
end Go.Proofs.Ytnoklmapofogeaa
