/-
  calculus: the tables of rules.
-/
import Derived.Test.YtnoklmapofogeaaVCcE
namespace Go.Proofs.Ytnoklmapofogeaa
open Go Go.Pv
set_option linter.unusedVariables false
set_option linter.unusedSimpArgs false
set_option maxRecDepth 100000
set_option maxHeartbeats 4000000

/-- a rule: its function, what that holds, what it does -/
structure Ent where
  fid : Nat
  ys : List PV
  R : Fm → List Fm → List Fm → List Prem × Bool
structure EntOK (e : Ent) : Prop where
  en : EnT Try.prog e.fid
  flat : FlatL e.ys
  call : ∀ f, Ar f → ∀ l r : List Fm, l.length ≤ 50000 → r.length ≤ 50000 → CallOK Try.prog e.fid (.agg (frm f) :: .list (l.map frm) :: .list (r.map frm) :: e.ys) [] (.tuple [.list ((e.R f l r).1.map premRow), .bool (e.R f l r).2]) []
abbrev Tab := List (ByteArray × Ent)
def entT (T : Tab) : List (PV × PV) := T.map fun p => (.str p.1, .fn (.func p.2.fid) [] p.2.ys)
def lookT (T : Tab) (a : ByteArray) : Option Ent := (T.find? fun p => decide (a = p.1)).map (·.2)
theorem findP_str {a b : ByteArray} {v : PV} {r : List (PV × PV)} {i : Nat} : findP (.str a) ((.str b, v) :: r) i = if a = b then some (some (i, v)) else findP (.str a) r (i + 1) := by
  by_cases h : a = b <;> simp [findP, keyEq, h]
theorem putP_none {a v : PV} {es : List (PV × PV)} : putP a v es none = es ++ [(a, v)] := rfl
theorem findP_ent (T : Tab) (a : ByteArray) : ∀ i, (lookT T a = none → findP (.str a) (entT T) i = some none) ∧ (∀ e, lookT T a = some e → ∃ j, findP (.str a) (entT T) i = some (some (j, .fn (.func e.fid) [] e.ys))) := by
  induction T with
  | nil => intro i; exact ⟨fun _ => rfl, fun e h => by simp [lookT] at h⟩
  | cons p r ih =>
    intro i
    have ih := ih (i + 1)
    simp only [entT, List.map_cons]
    rw [findP_str]
    by_cases h : a = p.1
    · rw [if_pos h]
      refine ⟨fun hn => by simp [lookT, h] at hn, fun e he => ⟨i, ?_⟩⟩
      simp [lookT, h] at he
      rw [← he]
    · rw [if_neg h]
      have hl : lookT (p :: r) a = lookT r a := by simp [lookT, h]
      rw [hl]; exact ih
theorem lookT_mem {T : Tab} {a : ByteArray} {e : Ent} (h : lookT T a = some e) : ∃ p ∈ T, p.2 = e := by
  unfold lookT at h
  obtain ⟨p, h1, h2⟩ := Option.map_eq_some_iff.1 h
  exact ⟨p, List.mem_of_find?_eq_some h1, h2⟩
noncomputable def sharedT : Tab := [(⟨#[97, 120]⟩, ⟨145, [], axR⟩), (⟨#[116, 114, 117, 101]⟩, ⟨146, [], trueR⟩), (⟨#[102, 97, 108, 115, 101]⟩, ⟨148, [], falseR⟩), (⟨#[97, 110, 100, 45, 108]⟩, ⟨149, [], andLR⟩), (⟨#[97, 110, 100, 45, 114]⟩, ⟨151, [], andRR⟩), (⟨#[111, 114, 45, 108]⟩, ⟨152, [], orLR⟩), (⟨#[116, 104, 101, 110, 45, 114]⟩, ⟨153, [], thenRR⟩), (⟨#[110, 111, 116, 45, 114]⟩, ⟨154, [], notRR⟩), (⟨#[99, 111, 110, 116, 114, 45, 108]⟩, ⟨155, [], contrLR⟩)]
theorem sharedT_ok : ∀ p ∈ sharedT, EntOK p.2 := by
  unfold sharedT
  refine List.forall_mem_cons.2 ⟨⟨inferInstance, inferInstance, axR_calculus⟩, ?_⟩
  refine List.forall_mem_cons.2 ⟨⟨inferInstance, inferInstance, trueR_calculus⟩, ?_⟩
  refine List.forall_mem_cons.2 ⟨⟨inferInstance, inferInstance, falseR_calculus⟩, ?_⟩
  refine List.forall_mem_cons.2 ⟨⟨inferInstance, inferInstance, andLR_calculus⟩, ?_⟩
  refine List.forall_mem_cons.2 ⟨⟨inferInstance, inferInstance, andRR_calculus⟩, ?_⟩
  refine List.forall_mem_cons.2 ⟨⟨inferInstance, inferInstance, orLR_calculus⟩, ?_⟩
  refine List.forall_mem_cons.2 ⟨⟨inferInstance, inferInstance, thenRR_calculus⟩, ?_⟩
  refine List.forall_mem_cons.2 ⟨⟨inferInstance, inferInstance, notRR_calculus⟩, ?_⟩
  refine List.forall_mem_cons.2 ⟨⟨inferInstance, inferInstance, contrLR_calculus⟩, ?_⟩
  exact fun p hp => nomatch hp
noncomputable def classT : Tab := [(⟨#[111, 114, 45, 114]⟩, ⟨156, [], orRR⟩), (⟨#[116, 104, 101, 110, 45, 108]⟩, ⟨157, [], thenLR⟩), (⟨#[110, 111, 116, 45, 108]⟩, ⟨158, [], notLR⟩), (⟨#[99, 111, 110, 116, 114, 45, 114]⟩, ⟨159, [], contrRR⟩), (⟨#[99, 117, 116]⟩, ⟨160, [], cutCR⟩)]
theorem classT_ok : ∀ p ∈ classT, EntOK p.2 := by
  unfold classT
  refine List.forall_mem_cons.2 ⟨⟨inferInstance, inferInstance, orRR_calculus⟩, ?_⟩
  refine List.forall_mem_cons.2 ⟨⟨inferInstance, inferInstance, thenLR_calculus⟩, ?_⟩
  refine List.forall_mem_cons.2 ⟨⟨inferInstance, inferInstance, notLR_calculus⟩, ?_⟩
  refine List.forall_mem_cons.2 ⟨⟨inferInstance, inferInstance, contrRR_calculus⟩, ?_⟩
  refine List.forall_mem_cons.2 ⟨⟨inferInstance, inferInstance, cutCR_calculus⟩, ?_⟩
  exact fun p hp => nomatch hp
noncomputable def intuT : Tab := [(⟨#[111, 114, 45, 114, 49]⟩, ⟨178, [.iptr [.int .i64 (0 : Int)]], (sideR 0)⟩), (⟨#[111, 114, 45, 114, 50]⟩, ⟨178, [.iptr [.int .i64 (1 : Int)]], (sideR 1)⟩), (⟨#[116, 104, 101, 110, 45, 108]⟩, ⟨162, [], thenIR⟩), (⟨#[110, 111, 116, 45, 108]⟩, ⟨163, [], notIR⟩), (⟨#[99, 117, 116]⟩, ⟨164, [], cutIR⟩)]
theorem intuT_ok : ∀ p ∈ intuT, EntOK p.2 := by
  unfold intuT
  refine List.forall_mem_cons.2 ⟨⟨inferInstance, inferInstance, fun f hA l r hl hr => side1_calculus 0 (by decide) f hA l r hl hr⟩, ?_⟩
  refine List.forall_mem_cons.2 ⟨⟨inferInstance, inferInstance, fun f hA l r hl hr => side1_calculus 1 (by decide) f hA l r hl hr⟩, ?_⟩
  refine List.forall_mem_cons.2 ⟨⟨inferInstance, inferInstance, thenIR_calculus⟩, ?_⟩
  refine List.forall_mem_cons.2 ⟨⟨inferInstance, inferInstance, notIR_calculus⟩, ?_⟩
  refine List.forall_mem_cons.2 ⟨⟨inferInstance, inferInstance, cutIR_calculus⟩, ?_⟩
  exact fun p hp => nomatch hp
attribute [local irreducible] X
def x129 : XC := .seq (.reg [⟨some 0,.assign (.const (.map none)),none⟩]) (.seq (.reg [⟨some 1,.makeMap 134 none,none⟩,⟨none,.insert 134 (.tmp 1) (.const (.string ⟨#[97,120]⟩)) (.func 145),none⟩,⟨none,.insert 134 (.tmp 1) (.const (.string ⟨#[116,114,117,101]⟩)) (.func 146),none⟩,⟨none,.insert 134 (.tmp 1) (.const (.string ⟨#[102,97,108,115,101]⟩)) (.func 148),none⟩,⟨none,.insert 134 (.tmp 1) (.const (.string ⟨#[97,110,100,45,108]⟩)) (.func 149),none⟩,⟨none,.insert 134 (.tmp 1) (.const (.string ⟨#[97,110,100,45,114]⟩)) (.func 151),none⟩,⟨none,.insert 134 (.tmp 1) (.const (.string ⟨#[111,114,45,108]⟩)) (.func 152),none⟩,⟨none,.insert 134 (.tmp 1) (.const (.string ⟨#[116,104,101,110,45,114]⟩)) (.func 153),none⟩,⟨none,.insert 134 (.tmp 1) (.const (.string ⟨#[110,111,116,45,114]⟩)) (.func 154),none⟩,⟨none,.insert 134 (.tmp 1) (.const (.string ⟨#[99,111,110,116,114,45,108]⟩)) (.func 155),none⟩,⟨some 2,.move (.tmp 1),none⟩,⟨some 0,.assign (.tmp 2),none⟩]) (.ret))
@[simp] theorem x129_s {C : WC} {e : AE} {s : Store} {K : KS} : type_of% (@X_at C e s K _ _ x129.eq_1) := X_at x129.eq_1
def an129 : Ann := ⟨[], [], []⟩
def cx129 (P : Program) (m : Nat) : WC := ⟨P, m, an129⟩
@[simp] theorem cx129_a {P : Program} {m : Nat} : (cx129 P m).P = P ∧ (cx129 P m).m = m := ⟨rfl, rfl⟩
instance {P : Program} {m f : Nat} [h : EnT P f] : EnT (cx129 P m).P f := h
theorem fi129 : FI Try.prog 129 cx129 x129 [.tmp 0] Try.f129 := fiOf (fun _ _ => rfl) (by decide +kernel) Try.func129 (by kernel_rfl) (by kernel_rfl) mixed

theorem shared_calculus : CallOK Try.prog 129 [] [] (.imap (entT sharedT)) [] := by
  refine fi129.op ?_
  unfold entT sharedT
  have h1 : findP (.str { data := #[116, 114, 117, 101] }) [(.str { data := #[97, 120] }, .fn (.func 145) [] [])] 0 = some none := by simp [findP_str]
  have h2 : findP (.str { data := #[102, 97, 108, 115, 101] }) [(.str { data := #[97, 120] }, .fn (.func 145) [] []), (.str { data := #[116, 114, 117, 101] }, .fn (.func 146) [] [])] 0 = some none := by simp [findP_str]
  have h3 : findP (.str { data := #[97, 110, 100, 45, 108] }) [(.str { data := #[97, 120] }, .fn (.func 145) [] []), (.str { data := #[116, 114, 117, 101] }, .fn (.func 146) [] []), (.str { data := #[102, 97, 108, 115, 101] }, .fn (.func 148) [] [])] 0 = some none := by simp [findP_str]
  have h4 : findP (.str { data := #[97, 110, 100, 45, 114] }) [(.str { data := #[97, 120] }, .fn (.func 145) [] []), (.str { data := #[116, 114, 117, 101] }, .fn (.func 146) [] []), (.str { data := #[102, 97, 108, 115, 101] }, .fn (.func 148) [] []), (.str { data := #[97, 110, 100, 45, 108] }, .fn (.func 149) [] [])] 0 = some none := by simp [findP_str]
  have h5 : findP (.str { data := #[111, 114, 45, 108] }) [(.str { data := #[97, 120] }, .fn (.func 145) [] []), (.str { data := #[116, 114, 117, 101] }, .fn (.func 146) [] []), (.str { data := #[102, 97, 108, 115, 101] }, .fn (.func 148) [] []), (.str { data := #[97, 110, 100, 45, 108] }, .fn (.func 149) [] []), (.str { data := #[97, 110, 100, 45, 114] }, .fn (.func 151) [] [])] 0 = some none := by simp [findP_str]
  have h6 : findP (.str { data := #[116, 104, 101, 110, 45, 114] }) [(.str { data := #[97, 120] }, .fn (.func 145) [] []), (.str { data := #[116, 114, 117, 101] }, .fn (.func 146) [] []), (.str { data := #[102, 97, 108, 115, 101] }, .fn (.func 148) [] []), (.str { data := #[97, 110, 100, 45, 108] }, .fn (.func 149) [] []), (.str { data := #[97, 110, 100, 45, 114] }, .fn (.func 151) [] []), (.str { data := #[111, 114, 45, 108] }, .fn (.func 152) [] [])] 0 = some none := by simp [findP_str]
  have h7 : findP (.str { data := #[110, 111, 116, 45, 114] }) [(.str { data := #[97, 120] }, .fn (.func 145) [] []), (.str { data := #[116, 114, 117, 101] }, .fn (.func 146) [] []), (.str { data := #[102, 97, 108, 115, 101] }, .fn (.func 148) [] []), (.str { data := #[97, 110, 100, 45, 108] }, .fn (.func 149) [] []), (.str { data := #[97, 110, 100, 45, 114] }, .fn (.func 151) [] []), (.str { data := #[111, 114, 45, 108] }, .fn (.func 152) [] []), (.str { data := #[116, 104, 101, 110, 45, 114] }, .fn (.func 153) [] [])] 0 = some none := by simp [findP_str]
  have h8 : findP (.str { data := #[99, 111, 110, 116, 114, 45, 108] }) [(.str { data := #[97, 120] }, .fn (.func 145) [] []), (.str { data := #[116, 114, 117, 101] }, .fn (.func 146) [] []), (.str { data := #[102, 97, 108, 115, 101] }, .fn (.func 148) [] []), (.str { data := #[97, 110, 100, 45, 108] }, .fn (.func 149) [] []), (.str { data := #[97, 110, 100, 45, 114] }, .fn (.func 151) [] []), (.str { data := #[111, 114, 45, 108] }, .fn (.func 152) [] []), (.str { data := #[116, 104, 101, 110, 45, 114] }, .fn (.func 153) [] []), (.str { data := #[110, 111, 116, 45, 114] }, .fn (.func 154) [] [])] 0 = some none := by simp [findP_str]
  ((refine Sg.h ?_); try repeat' ((first | (with_reducible first | refine Sg.mk ?_ | refine brA ?_ | refine brE fun _ => ?_ | (refine spl (And.intro ?_ ?_) <;> intro _))) <;> ((try simp (implicitDefEqProofs := false) [h1, h2, h3, h4, h5, h6, h7, h8, putP_none]); (try simp (implicitDefEqProofs := false) (disch := first | assumption | (try simp only [lens]); omega -splitDisjunctions) [h1, h2, h3, h4, h5, h6, h7, h8, putP_none]))))
def x130 : XC := .seq (.reg [⟨some 0,.assign (.const (.map none)),none⟩]) (.seq (.reg [⟨some 1,.makeMap 134 none,none⟩,⟨none,.insert 134 (.tmp 1) (.const (.string ⟨#[111,114,45,114]⟩)) (.func 156),none⟩,⟨none,.insert 134 (.tmp 1) (.const (.string ⟨#[116,104,101,110,45,108]⟩)) (.func 157),none⟩,⟨none,.insert 134 (.tmp 1) (.const (.string ⟨#[110,111,116,45,108]⟩)) (.func 158),none⟩,⟨none,.insert 134 (.tmp 1) (.const (.string ⟨#[99,111,110,116,114,45,114]⟩)) (.func 159),none⟩,⟨none,.insert 134 (.tmp 1) (.const (.string ⟨#[99,117,116]⟩)) (.func 160),none⟩,⟨some 2,.move (.tmp 1),none⟩,⟨some 0,.assign (.tmp 2),none⟩]) (.ret))
@[simp] theorem x130_s {C : WC} {e : AE} {s : Store} {K : KS} : type_of% (@X_at C e s K _ _ x130.eq_1) := X_at x130.eq_1
def an130 : Ann := ⟨[], [], []⟩
def cx130 (P : Program) (m : Nat) : WC := ⟨P, m, an130⟩
@[simp] theorem cx130_a {P : Program} {m : Nat} : (cx130 P m).P = P ∧ (cx130 P m).m = m := ⟨rfl, rfl⟩
instance {P : Program} {m f : Nat} [h : EnT P f] : EnT (cx130 P m).P f := h
theorem fi130 : FI Try.prog 130 cx130 x130 [.tmp 0] Try.f130 := fiOf (fun _ _ => rfl) (by decide +kernel) Try.func130 (by kernel_rfl) (by kernel_rfl) mixed

theorem classical_calculus : CallOK Try.prog 130 [] [] (.imap (entT classT)) [] := by
  refine fi130.op ?_
  unfold entT classT
  ((refine Sg.h ?_); try repeat' ((first | (with_reducible first | refine Sg.mk ?_ | refine brA ?_ | refine brE fun _ => ?_ | (refine spl (And.intro ?_ ?_) <;> intro _))) <;> ((try simp (implicitDefEqProofs := false) [findP_str, putP_none]); (try simp (implicitDefEqProofs := false) (disch := first | assumption | (try simp only [lens]); omega -splitDisjunctions) [findP_str, putP_none]))))
def x131 : XC := .seq (.reg [⟨some 0,.assign (.const (.map none)),none⟩]) (.seq (.reg [⟨some 1,.makeMap 134 none,none⟩,⟨some 2,.call ⟨.value (.func 161),#[.const (.int .i64 0)],#[3]⟩,none⟩,⟨none,.insert 134 (.tmp 1) (.const (.string ⟨#[111,114,45,114,49]⟩)) (.tmp 2),none⟩,⟨some 3,.call ⟨.value (.func 161),#[.const (.int .i64 1)],#[3]⟩,none⟩,⟨none,.insert 134 (.tmp 1) (.const (.string ⟨#[111,114,45,114,50]⟩)) (.tmp 3),none⟩,⟨none,.insert 134 (.tmp 1) (.const (.string ⟨#[116,104,101,110,45,108]⟩)) (.func 162),none⟩,⟨none,.insert 134 (.tmp 1) (.const (.string ⟨#[110,111,116,45,108]⟩)) (.func 163),none⟩,⟨none,.insert 134 (.tmp 1) (.const (.string ⟨#[99,117,116]⟩)) (.func 164),none⟩,⟨some 4,.move (.tmp 1),none⟩,⟨some 0,.assign (.tmp 4),none⟩]) (.ret))
@[simp] theorem x131_s {C : WC} {e : AE} {s : Store} {K : KS} : type_of% (@X_at C e s K _ _ x131.eq_1) := X_at x131.eq_1
def an131 : Ann := ⟨[], [], []⟩
def cx131 (P : Program) (m : Nat) : WC := ⟨P, m, an131⟩
@[simp] theorem cx131_a {P : Program} {m : Nat} : (cx131 P m).P = P ∧ (cx131 P m).m = m := ⟨rfl, rfl⟩
instance {P : Program} {m f : Nat} [h : EnT P f] : EnT (cx131 P m).P f := h
theorem fi131 : FI Try.prog 131 cx131 x131 [.tmp 0] Try.f131 := fiOf (fun _ _ => rfl) (by decide +kernel) Try.func131 (by kernel_rfl) (by kernel_rfl) mixed

theorem intuitionistic_calculus : CallOK Try.prog 131 [] [] (.imap (entT intuT)) [] := by
  refine fi131.op ?_
  unfold entT intuT
  ((refine Sg.h ?_); try repeat' ((first | (with_reducible first | refine Sg.mk ?_ | refine brA ?_ | refine brE fun _ => ?_ | (refine spl (And.intro ?_ ?_) <;> intro _)) | (refine clo (side_calculus 0) ?_) | (refine clo (side_calculus 1) ?_)) <;> ((try simp (implicitDefEqProofs := false) [findP_str, putP_none]); (try simp (implicitDefEqProofs := false) (disch := first | assumption | (try simp only [lens]); omega -splitDisjunctions) [findP_str, putP_none]))))
end Go.Proofs.Ytnoklmapofogeaa
