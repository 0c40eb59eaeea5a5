/-
  law03: withAll, instead.
-/
import Derived.Test.YtnoklmapofogeaaXCcN
namespace Go.Proofs.Ytnoklmapofogeaa
open Go Go.Pv
set_option linter.unusedVariables false
set_option linter.unusedSimpArgs false
set_option maxRecDepth 100000
set_option maxHeartbeats 4000000

def x64_T1 : XC := .seq (.reg [⟨some 44,.load 24 (.tmp 7),none⟩,⟨none,.store 24 (.tmp 6) (.tmp 44),none⟩]) (.ret)
def x64_L0 : XC := .seq (.seq (.reg [⟨some 24,.move (.tmp 8),none⟩,⟨some 25,.fieldAddr 24 (.tmp 3) 2,none⟩,⟨some 26,.load 22 (.tmp 25),none⟩,⟨some 27,.call ⟨.builtin .len,#[.tmp 26],#[22]⟩,none⟩,⟨some 28,.binOp .lss 3 (.tmp 24) (.tmp 27) 3,none⟩]) (.cond (.tmp 28) (.skip) (.exit 0))) (.seq (.block 1 (.drawn 7 [⟨some 31,.fieldAddr 24 (.tmp 7) 2,none⟩,⟨some 32,.load 22 (.tmp 31),none⟩,⟨some 33,.fieldAddr 24 (.tmp 3) 2,none⟩,⟨some 34,.load 22 (.tmp 33),none⟩,⟨some 35,.move (.tmp 8),none⟩,⟨some 36,.indexAddr 22 (.tmp 34) (.tmp 35),none⟩,⟨some 37,.load 24 (.tmp 36),none⟩,⟨some 38,.move (.tmp 1),none⟩,⟨some 39,.load 24 (.tmp 5),none⟩,⟨some 40,.call ⟨.value (.func 64),#[.tmp 37,.tmp 38,.tmp 39],#[24,9,24]⟩,none⟩,⟨some 41,.buildSlice 22 1 #[(0,.tmp 40)],none⟩,⟨some 42,.call ⟨.builtin .append,#[.tmp 32,.tmp 41],#[22,22]⟩,none⟩,⟨some 43,.fieldAddr 24 (.tmp 7) 2,none⟩,⟨none,.store 22 (.tmp 43) (.tmp 42),none⟩])) (.reg [⟨some 29,.move (.tmp 8),none⟩,⟨some 30,.binOp .add 3 (.tmp 29) (.const (.int .i64 1)) 3,none⟩,⟨some 8,.assign (.tmp 30),none⟩]))
def x64 : XC := .seq (.reg [⟨some 3,.box 24 (.tmp 0),none⟩,⟨some 5,.box 24 (.tmp 2),none⟩,⟨some 6,.alloc 24,none⟩]) (.seq (.seq (.reg [⟨some 9,.fieldAddr 24 (.tmp 3) 0,none⟩,⟨some 10,.load 3 (.tmp 9),none⟩,⟨some 11,.binOp .eql 3 (.tmp 10) (.const (.int .i64 1)) 3,none⟩,⟨some 12,.move (.tmp 11),none⟩,⟨some 13,.fieldAddr 24 (.tmp 3) 1,some (some 12,true)⟩,⟨some 14,.load 9 (.tmp 13),some (some 12,true)⟩,⟨some 15,.move (.tmp 1),some (some 12,true)⟩,⟨some 16,.binOp .eql 9 (.tmp 14) (.tmp 15) 9,some (some 12,true)⟩,⟨some 17,.pick (.tmp 12) (.tmp 16) (.const (.bool false)),none⟩]) (.cond (.tmp 17) (.seq (.reg [⟨some 18,.load 24 (.tmp 5),none⟩,⟨none,.store 24 (.tmp 6) (.tmp 18),none⟩]) (.ret)) (.skip))) (.seq (.reg [⟨some 19,.fieldAddr 24 (.tmp 3) 0,none⟩,⟨some 20,.load 3 (.tmp 19),none⟩,⟨some 21,.fieldAddr 24 (.tmp 3) 1,none⟩,⟨some 22,.load 9 (.tmp 21),none⟩,⟨some 23,.build 24 #[(0,.tmp 20),(1,.tmp 22)],none⟩,⟨some 7,.alloc 24,none⟩,⟨none,.store 24 (.tmp 7) (.tmp 23),none⟩]) (.seq (.seq (.reg [⟨some 8,.assign (.const (.int .i64 0)),none⟩]) (.bloop 0 x64_L0)) (x64_T1))))
@[simp] theorem x64_s {C : WC} {e : AE} {s : Store} {K : KS} : type_of% (@X_at C e s K _ _ x64_T1.eq_1) ∧ type_of% (@X_at C e s K _ _ x64_L0.eq_1) ∧ type_of% (@X_at C e s K _ _ x64.eq_1) := ⟨X_at x64_T1.eq_1, X_at x64_L0.eq_1, X_at x64.eq_1⟩
def an64 : Ann := ⟨[(7, .mix 11)], [(0, [(7, some 2, 3)], [1, 3, 5, 6, 7, 8], [6, 7])], []⟩
def cx64 (P : Program) (m : Nat) : WC := ⟨P, m, an64⟩
@[simp] theorem cx64_a {P : Program} {m : Nat} : (cx64 P m).P = P ∧ (cx64 P m).m = m ∧ (cx64 P m).A.clsOf 7 = .mix 11 ∧ (cx64 P m).A.frzOf 7 = [] ∧ (cx64 P m).A.loopOf 0 = ([(7, some 2, 3)], [1, 3, 5, 6, 7, 8], [6, 7]) := ⟨rfl, rfl, rfl, rfl, rfl⟩
instance {P : Program} {m f : Nat} [h : EnT P f] : EnT (cx64 P m).P f := h
theorem chk64 : ∀ c, Try.f64.body = some c → chkC Try.f64.ntmps an64 c = true := by intro c h; obtain rfl := Option.some.inj h; decide +kernel
theorem os64 {args : List PV} {v : PV} (h : X (cx64 Try.prog 0) x64 (argsA 0 args) [] (.fin [.cell 6 24] fun v1 s1 => softV (deref s1 6 v1) = v)) (hl : args.length ≤ Try.f64.ntmps := by rw [Try.ntmps64]; simp) : CallOK Try.prog 64 args [] v [] :=
  callXF (m := 0) (cx64 Try.prog 0) x64 rfl rfl (by kernel_rfl) Try.func64 rfl rfl hl mixed (chk64 _ rfl) (by rw [Try.results64]; exact h)

theorem With_vast (nm : ByteArray) (g : Fm) (f : Fm) : ∀ d, vastB f d = false → CallOK Try.prog 64 [.agg (frm f), .str nm, .agg (frm g)] [] (.agg (frm (withF nm g f))) [] := by
  induction f using Fm.ind with
  | h f ih =>
    intro d hv
    obtain ⟨hkl, hv⟩ := vast_kids hv
    have ih := fun x hx => ih x hx _ (hv x hx)
    rw [withF_eq]
    refine os64 ?_
    by_cases hc : f.kind = 1 ∧ f.name = nm
    · rw [if_pos hc]
      (((try simp (implicitDefEqProofs := false) [hc.1, hc.2]); (try simp (implicitDefEqProofs := false) (disch := first | assumption | (try simp only [lens]); omega -splitDisjunctions) [hc.1, hc.2])); all_goals try (repeat' ((first | ((with_reducible first | refine And.intro ?_ ?_ | refine Exists.intro ?_ ?_); first | omega | (simp <;> omega)) | (with_reducible refine spl (And.intro ?_ ?_) <;> intro _)) <;> ((try simp (implicitDefEqProofs := false) [hc.1, hc.2]); (try simp (implicitDefEqProofs := false) (disch := first | assumption | (try simp only [lens]); omega -splitDisjunctions) [hc.1, hc.2])))))
    · rw [if_neg hc]
      have key : W (cx64 Try.prog 0) 0 x64_L0 (KS.seq x64_T1 (KS.fin [ResultVar.cell 6 24] fun v1 s1 => softV (deref s1 6 v1) = PV.agg (frm (Fm.mk f.kind f.name (List.map (withF nm g) f.kids))))) [(1, PV.str nm), (3, PV.ptr 0 0 0), (5, PV.ptr 1 0 0), (6, PV.ptr 2 0 0), (7, PV.ptr 3 0 0), (8, PV.int IntKind.i64 0)] [PObj.rows 3 [frm f], PObj.rows 3 [frm g], PObj.rows 3 [[PV.int IntKind.i64 0, PV.str { data := #[] }, PV.nilsl]], PObj.rows 3 [[PV.int IntKind.i64 f.kind, PV.str f.name, PV.sl 4 0 0]], PObj.rows 3 []] := by
        refine W_of fun Q hQ => ?_
        have main : ∀ r i, i + r = f.kids.length → Q [(1, .str nm), (3, .ptr 0 0 0), (5, .ptr 1 0 0), (6, .ptr 2 0 0), (7, .ptr 3 0 0), (8, .int .i64 (i : Int))] [.rows 3 [frm f], .rows 3 [frm g], .rows 3 [[.int .i64 0, .str ⟨#[]⟩, .nilsl]], .rows 3 [[.int .i64 f.kind, .str f.name, .sl 4 0 i]], .rows 3 (((f.kids.take i).map (withF nm g)).map frm)] := by
          intro r
          induction r with
          | zero =>
            intro i hi
            obtain rfl : i = f.kids.length := by omega
            rw [List.take_length]
            apply hQ
            clear hQ
            rw [frm_eq (Fm.mk _ _ _)]
            (((try simp (implicitDefEqProofs := false)); (try simp (implicitDefEqProofs := false) (disch := first | assumption | (try simp only [lens]); omega -splitDisjunctions))); all_goals try (repeat' ((first | ((with_reducible first | refine And.intro ?_ ?_ | refine Exists.intro ?_ ?_); first | omega | (simp <;> omega)) | (with_reducible refine spl (And.intro ?_ ?_) <;> intro _)) <;> ((try simp (implicitDefEqProofs := false)); (try simp (implicitDefEqProofs := false) (disch := first | assumption | (try simp only [lens]); omega -splitDisjunctions))))))
          | succ r ihr =>
            intro i hi
            have hik : i < f.kids.length := by omega
            have ihr := ihr (i + 1) (by omega)
            have hc := ih f.kids[i] (List.getElem_mem hik)
            rw [take_snoc hik, List.map_append, List.map_append, List.map_cons, List.map_nil] at ihr
            apply hQ
            clear hQ
            (((try simp (implicitDefEqProofs := false) [hik]); (try simp (implicitDefEqProofs := false) (disch := first | assumption | (try simp only [lens]); omega -splitDisjunctions) [hik])); all_goals try (repeat' ((first | ((with_reducible first | refine And.intro ?_ ?_ | refine Exists.intro ?_ ?_); first | omega | (simp <;> omega)) | (with_reducible refine spl (And.intro ?_ ?_) <;> intro _) | (refine CL.clo (hc) ?_) | (refine CM.clo (hc) ?_) | (refine CD.clo (hc) ?_)) <;> ((try simp (implicitDefEqProofs := false) [hik]); (try simp (implicitDefEqProofs := false) (disch := first | assumption | (try simp only [lens]); omega -splitDisjunctions) [hik])))))
            all_goals first | exact ihr | (refine at2 ihr ?_ ?_ <;> simp; done) | (exfalso; first | omega | (simp_all; done) | (simp_all; omega))
        refine at2 (main _ 0 (Nat.zero_add _)) ?_ ?_ <;> simp
      by_cases h1 : f.kind = 1
      · have h2 : ¬ f.name = nm := fun h => hc ⟨h1, h⟩
        have h1 : (f.kind = 1) = True := eq_true h1
        have h2 : (f.name = nm) = False := eq_false h2
        (((try simp (implicitDefEqProofs := false) [h1, h2]); (try simp (implicitDefEqProofs := false) (disch := first | assumption | (try simp only [lens]); omega -splitDisjunctions) [h1, h2])); all_goals try (repeat' ((first | ((with_reducible first | refine And.intro ?_ ?_ | refine Exists.intro ?_ ?_); first | omega | (simp <;> omega)) | (with_reducible refine spl (And.intro ?_ ?_) <;> intro _)) <;> ((try simp (implicitDefEqProofs := false) [h1, h2]); (try simp (implicitDefEqProofs := false) (disch := first | assumption | (try simp only [lens]); omega -splitDisjunctions) [h1, h2])))))
        all_goals exact key
      · have h1 : (f.kind = 1) = False := eq_false h1
        (((try simp (implicitDefEqProofs := false) [h1]); (try simp (implicitDefEqProofs := false) (disch := first | assumption | (try simp only [lens]); omega -splitDisjunctions) [h1])); all_goals try (repeat' ((first | ((with_reducible first | refine And.intro ?_ ?_ | refine Exists.intro ?_ ?_); first | omega | (simp <;> omega)) | (with_reducible refine spl (And.intro ?_ ?_) <;> intro _)) <;> ((try simp (implicitDefEqProofs := false) [h1]); (try simp (implicitDefEqProofs := false) (disch := first | assumption | (try simp only [lens]); omega -splitDisjunctions) [h1])))))
        all_goals exact key
def x65_T1 : XC := .seq (.reg [⟨some 25,.move (.tmp 7),none⟩,⟨some 6,.assign (.tmp 25),none⟩]) (.ret)
def x65_L0 : XC := .seq (.seq (.reg [⟨some 9,.move (.tmp 8),none⟩,⟨some 10,.move (.tmp 0),none⟩,⟨some 11,.call ⟨.builtin .len,#[.tmp 10],#[22]⟩,none⟩,⟨some 12,.binOp .lss 3 (.tmp 9) (.tmp 11) 3,none⟩]) (.cond (.tmp 12) (.skip) (.exit 0))) (.seq (.block 1 (.drawn 5 [⟨some 15,.move (.tmp 7),none⟩,⟨some 16,.move (.tmp 0),none⟩,⟨some 17,.move (.tmp 8),none⟩,⟨some 18,.indexAddr 22 (.tmp 16) (.tmp 17),none⟩,⟨some 19,.load 24 (.tmp 18),none⟩,⟨some 20,.move (.tmp 1),none⟩,⟨some 21,.load 24 (.tmp 5),none⟩,⟨some 22,.call ⟨.value (.func 64),#[.tmp 19,.tmp 20,.tmp 21],#[24,9,24]⟩,none⟩,⟨some 23,.buildSlice 22 1 #[(0,.tmp 22)],none⟩,⟨some 24,.call ⟨.builtin .append,#[.tmp 15,.tmp 23],#[22,22]⟩,none⟩,⟨some 7,.assign (.tmp 24),none⟩])) (.reg [⟨some 13,.move (.tmp 8),none⟩,⟨some 14,.binOp .add 3 (.tmp 13) (.const (.int .i64 1)) 3,none⟩,⟨some 8,.assign (.tmp 14),none⟩]))
def x65 : XC := .seq (.reg [⟨some 5,.box 24 (.tmp 2),none⟩,⟨some 6,.assign (.const (.slice none 0 0)),none⟩]) (.seq (.reg [⟨some 7,.assign (.const (.slice none 0 0)),none⟩]) (.seq (.seq (.reg [⟨some 8,.assign (.const (.int .i64 0)),none⟩]) (.bloop 0 x65_L0)) (x65_T1)))
@[simp] theorem x65_s {C : WC} {e : AE} {s : Store} {K : KS} : type_of% (@X_at C e s K _ _ x65_T1.eq_1) ∧ type_of% (@X_at C e s K _ _ x65_L0.eq_1) ∧ type_of% (@X_at C e s K _ _ x65.eq_1) := ⟨X_at x65_T1.eq_1, X_at x65_L0.eq_1, X_at x65.eq_1⟩
def an65 : Ann := ⟨[(5, .mix 9)], [(0, [(7, none, 3)], [0, 1, 5, 7, 8], [7])], []⟩
def cx65 (P : Program) (m : Nat) : WC := ⟨P, m, an65⟩
@[simp] theorem cx65_a {P : Program} {m : Nat} : (cx65 P m).P = P ∧ (cx65 P m).m = m ∧ (cx65 P m).A.clsOf 5 = .mix 9 ∧ (cx65 P m).A.frzOf 5 = [] ∧ (cx65 P m).A.loopOf 0 = ([(7, none, 3)], [0, 1, 5, 7, 8], [7]) := ⟨rfl, rfl, rfl, rfl, rfl⟩
instance {P : Program} {m f : Nat} [h : EnT P f] : EnT (cx65 P m).P f := h
theorem chk65 : ∀ c, Try.f65.body = some c → chkC Try.f65.ntmps an65 c = true := by intro c h; obtain rfl := Option.some.inj h; decide +kernel
theorem op65 {args : List PV} {v : PV} (h : X (cx65 Try.prog 0) x65 (argsA 0 args) [] (.fin [.tmp 6] fun v1 s1 => deref s1 6 v1 = v)) (hl : args.length ≤ Try.f65.ntmps := by rw [Try.ntmps65]; simp) : CallOK Try.prog 65 args [] v [] :=
  callX (m := 0) (cx65 Try.prog 0) x65 rfl rfl (by kernel_rfl) Try.func65 rfl rfl hl mixed (chk65 _ rfl) (by rw [Try.results65]; exact h)

theorem withAll_law (nm : ByteArray) (g : Fm) (l : List Fm) (hl : l.length ≤ 1000000) (hv : ∀ f ∈ l, vastB f 0 = false) : CallOK Try.prog 65 [.list (l.map frm), .str nm, .agg (frm g)] [] (.list ((l.map (withF nm g)).map frm)) [] := by
  refine op65 ?_
  generalize hE : l.map (withF nm g) = E
  (((try simp (implicitDefEqProofs := false)); (try simp (implicitDefEqProofs := false) (disch := first | assumption | (try simp only [lens]); omega -splitDisjunctions))); all_goals try (repeat' ((first | ((with_reducible first | refine And.intro ?_ ?_ | refine Exists.intro ?_ ?_); first | omega | (simp <;> omega)) | (with_reducible refine spl (And.intro ?_ ?_) <;> intro _)) <;> ((try simp (implicitDefEqProofs := false)); (try simp (implicitDefEqProofs := false) (disch := first | assumption | (try simp only [lens]); omega -splitDisjunctions))))))
  refine W_of fun Q hQ => ?_
  have main : ∀ r i, i + r = l.length → Q [(0, .list (l.map frm)), (1, .str nm), (5, .ptr 0 0 0), (7, .sl 1 0 (E.take i).length), (8, .int .i64 (i : Int))] [.rows 3 [frm g], .rows 3 ((E.take i).map frm)] := by
    intro r
    induction r with
    | zero =>
      intro i hi
      obtain rfl : i = l.length := by omega
      rw [show E.take l.length = E from by rw [← hE]; exact List.take_of_length_le (by simp)]
      apply hQ
      clear hQ
      (((try simp (implicitDefEqProofs := false)); (try simp (implicitDefEqProofs := false) (disch := first | assumption | (try simp only [lens]); omega -splitDisjunctions))); all_goals try (repeat' ((first | ((with_reducible first | refine And.intro ?_ ?_ | refine Exists.intro ?_ ?_); first | omega | (simp <;> omega)) | (with_reducible refine spl (And.intro ?_ ?_) <;> intro _)) <;> ((try simp (implicitDefEqProofs := false)); (try simp (implicitDefEqProofs := false) (disch := first | assumption | (try simp only [lens]); omega -splitDisjunctions))))))
    | succ r ih =>
      intro i hi
      have hil : i < l.length := by omega
      have ih := ih (i + 1) (by omega)
      have hc := With_vast nm g l[i] 0 (hv _ (List.getElem_mem hil))
      have hiE : i < E.length := by rw [← hE, List.length_map]; exact hil
      have hEi : withF nm g l[i] = E[i] := by simp [← hE]
      have hlen : (E.take i).length = i := by rw [List.length_take]; omega
      rw [take_snoc hiE] at ih
      rw [hEi] at hc
      generalize E.take i = T at *
      generalize E[i] = X at *
      apply hQ
      clear hQ
      (((try simp (implicitDefEqProofs := false) [hil]); (try simp (implicitDefEqProofs := false) (disch := first | assumption | (try simp only [lens]); omega -splitDisjunctions) [hil])); all_goals try (repeat' ((first | ((with_reducible first | refine And.intro ?_ ?_ | refine Exists.intro ?_ ?_); first | omega | (simp <;> omega)) | (with_reducible refine spl (And.intro ?_ ?_) <;> intro _) | (refine CL.clo (hc) ?_) | (refine CM.clo (hc) ?_) | (refine CD.clo (hc) ?_)) <;> ((try simp (implicitDefEqProofs := false) [hil]); (try simp (implicitDefEqProofs := false) (disch := first | assumption | (try simp only [lens]); omega -splitDisjunctions) [hil])))))
      all_goals first | exact ih | (refine at2 ih ?_ ?_ <;> simp; done) | (exfalso; first | omega | (simp_all; done) | (simp_all; omega))
  refine at2 (main _ 0 (Nat.zero_add _)) ?_ ?_ <;> simp
def instP (nm : ByteArray) (g : Fm) (p : Pf) : Pf := turnP (withF nm g) [] p
theorem instP_eq (nm : ByteArray) (g : Fm) (p : Pf) : instP nm g p = .mk p.rule (withF nm g p.f) (p.l.map (withF nm g)) (p.r.map (withF nm g)) (p.kids.map (instP nm g)) := by
  unfold instP; rw [turnP_eq, List.append_nil]
def x25_T1 : XC := .seq (.reg [⟨some 50,.load 29 (.tmp 7),none⟩,⟨none,.store 29 (.tmp 6) (.tmp 50),none⟩]) (.ret)
def x25_L0 : XC := .seq (.seq (.reg [⟨some 30,.move (.tmp 8),none⟩,⟨some 31,.fieldAddr 29 (.tmp 3) 3,none⟩,⟨some 32,.load 27 (.tmp 31),none⟩,⟨some 33,.call ⟨.builtin .len,#[.tmp 32],#[27]⟩,none⟩,⟨some 34,.binOp .lss 3 (.tmp 30) (.tmp 33) 3,none⟩]) (.cond (.tmp 34) (.skip) (.exit 0))) (.seq (.block 1 (.drawn 5 [⟨some 37,.fieldAddr 29 (.tmp 7) 3,none⟩,⟨some 38,.load 27 (.tmp 37),none⟩,⟨some 39,.fieldAddr 29 (.tmp 3) 3,none⟩,⟨some 40,.load 27 (.tmp 39),none⟩,⟨some 41,.move (.tmp 8),none⟩,⟨some 42,.indexAddr 27 (.tmp 40) (.tmp 41),none⟩,⟨some 43,.load 29 (.tmp 42),none⟩,⟨some 44,.move (.tmp 1),none⟩,⟨some 45,.load 24 (.tmp 5),none⟩,⟨some 46,.call ⟨.value (.func 25),#[.tmp 43,.tmp 44,.tmp 45],#[29,9,24]⟩,none⟩,⟨some 47,.buildSlice 27 1 #[(0,.tmp 46)],none⟩,⟨some 48,.call ⟨.builtin .append,#[.tmp 38,.tmp 47],#[27,27]⟩,none⟩,⟨some 49,.fieldAddr 29 (.tmp 7) 3,none⟩,⟨none,.store 27 (.tmp 49) (.tmp 48),none⟩])) (.reg [⟨some 35,.move (.tmp 8),none⟩,⟨some 36,.binOp .add 3 (.tmp 35) (.const (.int .i64 1)) 3,none⟩,⟨some 8,.assign (.tmp 36),none⟩]))
def x25 : XC := .seq (.reg [⟨some 3,.box 29 (.tmp 0),none⟩,⟨some 5,.box 24 (.tmp 2),none⟩,⟨some 6,.alloc 29,none⟩]) (.seq (.drawn 1 [⟨some 9,.fieldAddr 29 (.tmp 3) 0,none⟩,⟨some 10,.load 9 (.tmp 9),none⟩,⟨some 11,.fieldAddr 29 (.tmp 3) 1,none⟩,⟨some 12,.load 24 (.tmp 11),none⟩,⟨some 13,.move (.tmp 1),none⟩,⟨some 14,.load 24 (.tmp 5),none⟩,⟨some 15,.call ⟨.value (.func 64),#[.tmp 12,.tmp 13,.tmp 14],#[24,9,24]⟩,none⟩,⟨some 16,.fieldAddr 29 (.tmp 3) 2,none⟩,⟨some 17,.fieldAddr 26 (.tmp 16) 0,none⟩,⟨some 18,.load 22 (.tmp 17),none⟩,⟨some 19,.move (.tmp 1),none⟩,⟨some 20,.load 24 (.tmp 5),none⟩,⟨some 21,.call ⟨.value (.func 65),#[.tmp 18,.tmp 19,.tmp 20],#[22,9,24]⟩,none⟩,⟨some 22,.fieldAddr 29 (.tmp 3) 2,none⟩,⟨some 23,.fieldAddr 26 (.tmp 22) 1,none⟩,⟨some 24,.load 22 (.tmp 23),none⟩,⟨some 25,.move (.tmp 1),none⟩,⟨some 26,.load 24 (.tmp 5),none⟩,⟨some 27,.call ⟨.value (.func 65),#[.tmp 24,.tmp 25,.tmp 26],#[22,9,24]⟩,none⟩,⟨some 28,.build 26 #[(0,.tmp 21),(1,.tmp 27)],none⟩,⟨some 29,.build 29 #[(0,.tmp 10),(1,.tmp 15),(2,.tmp 28)],none⟩,⟨some 7,.alloc 29,none⟩,⟨none,.store 29 (.tmp 7) (.tmp 29),none⟩]) (.seq (.seq (.reg [⟨some 8,.assign (.const (.int .i64 0)),none⟩]) (.bloop 0 x25_L0)) (x25_T1)))
@[simp] theorem x25_s {C : WC} {e : AE} {s : Store} {K : KS} : type_of% (@X_at C e s K _ _ x25_T1.eq_1) ∧ type_of% (@X_at C e s K _ _ x25_L0.eq_1) ∧ type_of% (@X_at C e s K _ _ x25.eq_1) := ⟨X_at x25_T1.eq_1, X_at x25_L0.eq_1, X_at x25.eq_1⟩
def an25 : Ann := ⟨[(1, .mix 22), (5, .mix 11)], [(0, [(7, some 6, 7)], [1, 3, 5, 6, 7, 8], [6, 7])], []⟩
def cx25 (P : Program) (m : Nat) : WC := ⟨P, m, an25⟩
@[simp] theorem cx25_a {P : Program} {m : Nat} : (cx25 P m).P = P ∧ (cx25 P m).m = m ∧ (cx25 P m).A.clsOf 1 = .mix 22 ∧ (cx25 P m).A.clsOf 5 = .mix 11 ∧ (cx25 P m).A.frzOf 1 = [] ∧ (cx25 P m).A.frzOf 5 = [] ∧ (cx25 P m).A.loopOf 0 = ([(7, some 6, 7)], [1, 3, 5, 6, 7, 8], [6, 7]) := ⟨rfl, rfl, rfl, rfl, rfl, rfl, rfl⟩
instance {P : Program} {m f : Nat} [h : EnT P f] : EnT (cx25 P m).P f := h
theorem chk25 : ∀ c, Try.f25.body = some c → chkC Try.f25.ntmps an25 c = true := by intro c h; obtain rfl := Option.some.inj h; decide +kernel
theorem op25 {args : List PV} {v : PV} (h : X (cx25 Try.prog 0) x25 (argsA 0 args) [] (.fin [.cell 6 29] fun v1 s1 => deref s1 6 v1 = v)) (hl : args.length ≤ Try.f25.ntmps := by rw [Try.ntmps25]; simp) : CallOK Try.prog 25 args [] v [] :=
  callX (m := 0) (cx25 Try.prog 0) x25 rfl rfl (by kernel_rfl) Try.func25 rfl rfl hl mixed (chk25 _ rfl) (by rw [Try.results25]; exact h)

theorem instead_law (nm : ByteArray) (g : Fm) (p : Pf) : ∀ d, vastP p d = false → CallOK Try.prog 25 [.agg (prf p), .str nm, .agg (frm g)] [] (.agg (prf (instP nm g p))) [] := by
  induction p using Pf.ind with
  | h p ih =>
    intro d hd
    obtain ⟨v1, v2, v3, v4, v5, v6, v7⟩ := vastP_all hd
    have h1 := With_vast nm g p.f 0 v4
    have h2 := withAll_law nm g p.l (by omega) v5
    have h3 := withAll_law nm g p.r (by omega) v6
    refine op25 ?_
    rw [instP_eq, prf_eq (Pf.mk _ _ _ _ _)]
    simp only [pf_mk]
    generalize hE : p.kids.map (instP nm g) = E
    generalize withF nm g p.f = F at *
    generalize p.l.map (withF nm g) = L at *
    generalize p.r.map (withF nm g) = R at *
    have hpf := frm_eq F
    (((try simp (implicitDefEqProofs := false) [hpf]); (try simp (implicitDefEqProofs := false) (disch := first | assumption | (try simp only [lens]); omega -splitDisjunctions) [hpf])); all_goals try (repeat' ((first | ((with_reducible first | refine And.intro ?_ ?_ | refine Exists.intro ?_ ?_); first | omega | (simp <;> omega)) | (with_reducible refine spl (And.intro ?_ ?_) <;> intro _) | (refine CL.clo (h1) ?_) | (refine CM.clo (h1) ?_) | (refine CD.clo (h1) ?_) | (refine CL.clo (h2) ?_) | (refine CM.clo (h2) ?_) | (refine CD.clo (h2) ?_) | (refine CL.clo (h3) ?_) | (refine CM.clo (h3) ?_) | (refine CD.clo (h3) ?_)) <;> ((try simp (implicitDefEqProofs := false) [hpf]); (try simp (implicitDefEqProofs := false) (disch := first | assumption | (try simp only [lens]); omega -splitDisjunctions) [hpf])))))
    refine W_of fun Q hQ => ?_
    have main : ∀ n i, i + n = p.kids.length → Q [(1, .str nm), (3, .ptr 0 0 0), (5, .ptr 1 0 0), (6, .ptr 2 0 0), (7, .ptr 3 0 0), (8, .int .i64 (i : Int))] [.rows 7 [prf p], .rows 3 [frm g], .rows 7 [[.str ⟨#[]⟩, .int .i64 0, .str ⟨#[]⟩, .nilsl, .nilsl, .nilsl, .nilsl]], .rows 7 [[.str p.rule, .int .i64 F.kind, .str F.name, .list (F.kids.map frm), .list (L.map frm), .list (R.map frm), .sl 4 0 (E.take i).length]], .rows 7 ((E.take i).map prf)] := by
      intro n
      induction n with
      | zero =>
        intro i hi
        obtain rfl : i = p.kids.length := by omega
        rw [show E.take p.kids.length = E from by rw [← hE]; exact List.take_of_length_le (by simp)]
        apply hQ
        clear hQ
        (((try simp (implicitDefEqProofs := false)); (try simp (implicitDefEqProofs := false) (disch := first | assumption | (try simp only [lens]); omega -splitDisjunctions))); all_goals try (repeat' ((first | ((with_reducible first | refine And.intro ?_ ?_ | refine Exists.intro ?_ ?_); first | omega | (simp <;> omega)) | (with_reducible refine spl (And.intro ?_ ?_) <;> intro _)) <;> ((try simp (implicitDefEqProofs := false)); (try simp (implicitDefEqProofs := false) (disch := first | assumption | (try simp only [lens]); omega -splitDisjunctions))))))
      | succ n ihn =>
        intro i hi
        have hil : i < p.kids.length := by omega
        have ihn := ihn (i + 1) (by omega)
        have hc := ih p.kids[i] (List.getElem_mem hil) _ (v7 _ (List.getElem_mem hil))
        have hiE : i < E.length := by rw [← hE, List.length_map]; exact hil
        have hEi : instP nm g p.kids[i] = E[i] := by simp [← hE]
        have hlen : (E.take i).length = i := by rw [List.length_take]; omega
        rw [take_snoc hiE] at ihn
        rw [hEi] at hc
        generalize E.take i = T at *
        generalize E[i] = X at *
        apply hQ
        clear hQ
        (((try simp (implicitDefEqProofs := false) [hil]); (try simp (implicitDefEqProofs := false) (disch := first | assumption | (try simp only [lens]); omega -splitDisjunctions) [hil])); all_goals try (repeat' ((first | ((with_reducible first | refine And.intro ?_ ?_ | refine Exists.intro ?_ ?_); first | omega | (simp <;> omega)) | (with_reducible refine spl (And.intro ?_ ?_) <;> intro _) | (refine CL.clo (hc) ?_) | (refine CM.clo (hc) ?_) | (refine CD.clo (hc) ?_)) <;> ((try simp (implicitDefEqProofs := false) [hil]); (try simp (implicitDefEqProofs := false) (disch := first | assumption | (try simp only [lens]); omega -splitDisjunctions) [hil])))))
        all_goals first | exact ihn | (refine at2 ihn ?_ ?_ <;> simp; done) | (exfalso; first | omega | (simp_all; done) | (simp_all; omega))
    all_goals first | exact main _ 0 (Nat.zero_add _) | (refine at2 main _ 0 (Nat.zero_add _) ?_ ?_ <;> simp; done) | (exfalso; first | omega | (simp_all; done) | (simp_all; omega))
end Go.Proofs.Ytnoklmapofogeaa
