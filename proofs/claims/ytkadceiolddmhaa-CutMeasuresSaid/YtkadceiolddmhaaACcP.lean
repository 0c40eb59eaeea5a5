import Derived.Test.YtkadceiolddmhaaACcE
import Derived.Test.YtkadceiolddmhaaAPvQt
set_option linter.unusedVariables false
set_option linter.unusedSimpArgs false
set_option maxRecDepth 100000
set_option maxHeartbeats 4000000
namespace Go.Proofs.Ytkadceiolddmhaa
open Go Go.Pv
structure Ent where
 fid : Nat
 ys : List PV
 R : Fm → List Fm → List Fm → List Prem × Bool
structure EntOK (e : Ent) : Prop where
 en : EnT Try.prog e.fid
 flat : FlatL e.ys
 call : ∀ f, Ar f → ∀ l r : List Fm, l.length ≤ 50000 → r.length ≤ 50000 → CallOK Try.prog e.fid (.agg (frm f) :: .list (l.map frm) :: .list (r.map frm) :: e.ys) [] (.tuple [.list ((e.R f l r).1.map premRow), .bool (e.R f l r).2]) []
abbrev Tab := List (ByteArray × Ent)
def entT (T : Tab) : List (PV × PV) := T.map fun p => (.str p.1, .fn (.func p.2.fid) [] p.2.ys)
def lookT (T : Tab) (a : ByteArray) : Option Ent := (T.find? fun p => decide (a = p.1)).map (·.2)
theorem findP_str {a b : ByteArray} {v : PV} {r : List (PV × PV)} {i : Nat} : findP (.str a) ((.str b, v) :: r) i = if a = b then some (some (i, v)) else findP (.str a) r (i + 1) := by
 by_cases h : a = b <;> simp [findP, keyEq, h]
theorem putP_none {a v : PV} {es : List (PV × PV)} : putP a v es none = es ++ [(a, v)] := rfl
theorem findP_ent (T : Tab) (a : ByteArray) : ∀ i, (lookT T a = none → findP (.str a) (entT T) i = some none) ∧ (∀ e, lookT T a = some e → ∃ j, findP (.str a) (entT T) i = some (some (j, .fn (.func e.fid) [] e.ys))) := by
 induction T with
 | nil => intro i; exact ⟨fun _ => rfl, fun e h => by simp [lookT] at h⟩
 | cons p r ih =>
  intro i
  have ih := ih (i + 1)
  simp only [entT, List.map_cons]
  rw [findP_str]
  by_cases h : a = p.1
  ·rw [if_pos h]
   refine ⟨fun hn => by simp [lookT, h] at hn, fun e he => ⟨i, ?_⟩⟩
   simp [lookT, h] at he
   rw [← he]
  ·rw [if_neg h]
   have hl : lookT (p :: r) a = lookT r a := by simp [lookT, h]
   rw [hl]; exact ih
theorem lookT_mem {T : Tab} {a : ByteArray} {e : Ent} (h : lookT T a = some e) : ∃ p ∈ T, p.2 = e := by
 unfold lookT at h
 obtain ⟨p, h1, h2⟩ := Option.map_eq_some_iff.1 h
 exact ⟨p, List.mem_of_find?_eq_some h1, h2⟩
noncomputable def sharedT : Tab := [(⟨#[97, 120]⟩, ⟨201, [], axR⟩), (⟨#[116, 114, 117, 101]⟩, ⟨202, [], trueR⟩), (⟨#[102, 97, 108, 115, 101]⟩, ⟨204, [], falseR⟩), (⟨#[97, 110, 100, 45, 108]⟩, ⟨205, [], andLR⟩), (⟨#[97, 110, 100, 45, 114]⟩, ⟨207, [], andRR⟩), (⟨#[111, 114, 45, 108]⟩, ⟨208, [], orLR⟩), (⟨#[116, 104, 101, 110, 45, 114]⟩, ⟨209, [], thenRR⟩), (⟨#[110, 111, 116, 45, 114]⟩, ⟨210, [], notRR⟩), (⟨#[99, 111, 110, 116, 114, 45, 108]⟩, ⟨211, [], contrLR⟩)]
theorem sharedT_ok : ∀ p ∈ sharedT, EntOK p.2 := by
 unfold sharedT
 refine List.forall_mem_cons.2 ⟨⟨inferInstance, inferInstance, axR_calculus⟩, ?_⟩
 refine List.forall_mem_cons.2 ⟨⟨inferInstance, inferInstance, trueR_calculus⟩, ?_⟩
 refine List.forall_mem_cons.2 ⟨⟨inferInstance, inferInstance, falseR_calculus⟩, ?_⟩
 refine List.forall_mem_cons.2 ⟨⟨inferInstance, inferInstance, andLR_calculus⟩, ?_⟩
 refine List.forall_mem_cons.2 ⟨⟨inferInstance, inferInstance, andRR_calculus⟩, ?_⟩
 refine List.forall_mem_cons.2 ⟨⟨inferInstance, inferInstance, orLR_calculus⟩, ?_⟩
 refine List.forall_mem_cons.2 ⟨⟨inferInstance, inferInstance, thenRR_calculus⟩, ?_⟩
 refine List.forall_mem_cons.2 ⟨⟨inferInstance, inferInstance, notRR_calculus⟩, ?_⟩
 refine List.forall_mem_cons.2 ⟨⟨inferInstance, inferInstance, contrLR_calculus⟩, ?_⟩
 exact fun p hp => nomatch hp
noncomputable def classT : Tab := [(⟨#[111, 114, 45, 114]⟩, ⟨212, [], orRR⟩), (⟨#[116, 104, 101, 110, 45, 108]⟩, ⟨213, [], thenLR⟩), (⟨#[110, 111, 116, 45, 108]⟩, ⟨214, [], notLR⟩), (⟨#[99, 111, 110, 116, 114, 45, 114]⟩, ⟨215, [], contrRR⟩), (⟨#[99, 117, 116]⟩, ⟨216, [], cutCR⟩)]
theorem classT_ok : ∀ p ∈ classT, EntOK p.2 := by
 unfold classT
 refine List.forall_mem_cons.2 ⟨⟨inferInstance, inferInstance, orRR_calculus⟩, ?_⟩
 refine List.forall_mem_cons.2 ⟨⟨inferInstance, inferInstance, thenLR_calculus⟩, ?_⟩
 refine List.forall_mem_cons.2 ⟨⟨inferInstance, inferInstance, notLR_calculus⟩, ?_⟩
 refine List.forall_mem_cons.2 ⟨⟨inferInstance, inferInstance, contrRR_calculus⟩, ?_⟩
 refine List.forall_mem_cons.2 ⟨⟨inferInstance, inferInstance, cutCR_calculus⟩, ?_⟩
 exact fun p hp => nomatch hp
noncomputable def intuT : Tab := [(⟨#[111, 114, 45, 114, 49]⟩, ⟨235, [.iptr [.int .i64 (0 : Int)]], (sideR 0)⟩), (⟨#[111, 114, 45, 114, 50]⟩, ⟨235, [.iptr [.int .i64 (1 : Int)]], (sideR 1)⟩), (⟨#[116, 104, 101, 110, 45, 108]⟩, ⟨218, [], thenIR⟩), (⟨#[110, 111, 116, 45, 108]⟩, ⟨219, [], notIR⟩), (⟨#[99, 117, 116]⟩, ⟨220, [], cutIR⟩)]
theorem intuT_ok : ∀ p ∈ intuT, EntOK p.2 := by
 unfold intuT
 refine List.forall_mem_cons.2 ⟨⟨inferInstance, inferInstance, fun f hA l r hl hr => side1_calculus 0 (by decide) f hA l r hl hr⟩, ?_⟩
 refine List.forall_mem_cons.2 ⟨⟨inferInstance, inferInstance, fun f hA l r hl hr => side1_calculus 1 (by decide) f hA l r hl hr⟩, ?_⟩
 refine List.forall_mem_cons.2 ⟨⟨inferInstance, inferInstance, thenIR_calculus⟩, ?_⟩
 refine List.forall_mem_cons.2 ⟨⟨inferInstance, inferInstance, notIR_calculus⟩, ?_⟩
 refine List.forall_mem_cons.2 ⟨⟨inferInstance, inferInstance, cutIR_calculus⟩, ?_⟩
 exact fun p hp => nomatch hp
attribute [local irreducible] X
def x172 : XC := .seq (.reg [⟨some 0,.assign (.const (.map none)),none⟩]) (.seq (.reg [⟨some 1,.makeMap 231 none,none⟩,⟨none,.insert 231 (.tmp 1) (.const (.string ⟨#[97,120]⟩)) (.func 201),none⟩,⟨none,.insert 231 (.tmp 1) (.const (.string ⟨#[116,114,117,101]⟩)) (.func 202),none⟩,⟨none,.insert 231 (.tmp 1) (.const (.string ⟨#[102,97,108,115,101]⟩)) (.func 204),none⟩,⟨none,.insert 231 (.tmp 1) (.const (.string ⟨#[97,110,100,45,108]⟩)) (.func 205),none⟩,⟨none,.insert 231 (.tmp 1) (.const (.string ⟨#[97,110,100,45,114]⟩)) (.func 207),none⟩,⟨none,.insert 231 (.tmp 1) (.const (.string ⟨#[111,114,45,108]⟩)) (.func 208),none⟩,⟨none,.insert 231 (.tmp 1) (.const (.string ⟨#[116,104,101,110,45,114]⟩)) (.func 209),none⟩,⟨none,.insert 231 (.tmp 1) (.const (.string ⟨#[110,111,116,45,114]⟩)) (.func 210),none⟩,⟨none,.insert 231 (.tmp 1) (.const (.string ⟨#[99,111,110,116,114,45,108]⟩)) (.func 211),none⟩,⟨some 2,.move (.tmp 1),none⟩,⟨some 0,.assign (.tmp 2),none⟩]) .ret)
@[simp] theorem x172_s {C e s K} : type_of% (@X_at C e s K _ _ x172.eq_1) := X_at x172.eq_1
def an172 : Ann := ⟨[], [], []⟩
theorem fi172 : FI Try.prog 172 (cxA an172) x172 [.tmp 0] Try.f172 := fiA Try.func172 mixed
theorem shared_calculus : CallOK Try.prog 172 [] [] (.imap (entT sharedT)) [] := by
 refine fi172.op ?_
 unfold entT sharedT
 have h1 : findP (.str { data := #[116, 114, 117, 101] }) [(.str { data := #[97, 120] }, .fn (.func 201) [] [])] 0 = some none := by simp [findP_str]
 have h2 : findP (.str { data := #[102, 97, 108, 115, 101] }) [(.str { data := #[97, 120] }, .fn (.func 201) [] []), (.str { data := #[116, 114, 117, 101] }, .fn (.func 202) [] [])] 0 = some none := by simp [findP_str]
 have h3 : findP (.str { data := #[97, 110, 100, 45, 108] }) [(.str { data := #[97, 120] }, .fn (.func 201) [] []), (.str { data := #[116, 114, 117, 101] }, .fn (.func 202) [] []), (.str { data := #[102, 97, 108, 115, 101] }, .fn (.func 204) [] [])] 0 = some none := by simp [findP_str]
 have h4 : findP (.str { data := #[97, 110, 100, 45, 114] }) [(.str { data := #[97, 120] }, .fn (.func 201) [] []), (.str { data := #[116, 114, 117, 101] }, .fn (.func 202) [] []), (.str { data := #[102, 97, 108, 115, 101] }, .fn (.func 204) [] []), (.str { data := #[97, 110, 100, 45, 108] }, .fn (.func 205) [] [])] 0 = some none := by simp [findP_str]
 have h5 : findP (.str { data := #[111, 114, 45, 108] }) [(.str { data := #[97, 120] }, .fn (.func 201) [] []), (.str { data := #[116, 114, 117, 101] }, .fn (.func 202) [] []), (.str { data := #[102, 97, 108, 115, 101] }, .fn (.func 204) [] []), (.str { data := #[97, 110, 100, 45, 108] }, .fn (.func 205) [] []), (.str { data := #[97, 110, 100, 45, 114] }, .fn (.func 207) [] [])] 0 = some none := by simp [findP_str]
 have h6 : findP (.str { data := #[116, 104, 101, 110, 45, 114] }) [(.str { data := #[97, 120] }, .fn (.func 201) [] []), (.str { data := #[116, 114, 117, 101] }, .fn (.func 202) [] []), (.str { data := #[102, 97, 108, 115, 101] }, .fn (.func 204) [] []), (.str { data := #[97, 110, 100, 45, 108] }, .fn (.func 205) [] []), (.str { data := #[97, 110, 100, 45, 114] }, .fn (.func 207) [] []), (.str { data := #[111, 114, 45, 108] }, .fn (.func 208) [] [])] 0 = some none := by simp [findP_str]
 have h7 : findP (.str { data := #[110, 111, 116, 45, 114] }) [(.str { data := #[97, 120] }, .fn (.func 201) [] []), (.str { data := #[116, 114, 117, 101] }, .fn (.func 202) [] []), (.str { data := #[102, 97, 108, 115, 101] }, .fn (.func 204) [] []), (.str { data := #[97, 110, 100, 45, 108] }, .fn (.func 205) [] []), (.str { data := #[97, 110, 100, 45, 114] }, .fn (.func 207) [] []), (.str { data := #[111, 114, 45, 108] }, .fn (.func 208) [] []), (.str { data := #[116, 104, 101, 110, 45, 114] }, .fn (.func 209) [] [])] 0 = some none := by simp [findP_str]
 have h8 : findP (.str { data := #[99, 111, 110, 116, 114, 45, 108] }) [(.str { data := #[97, 120] }, .fn (.func 201) [] []), (.str { data := #[116, 114, 117, 101] }, .fn (.func 202) [] []), (.str { data := #[102, 97, 108, 115, 101] }, .fn (.func 204) [] []), (.str { data := #[97, 110, 100, 45, 108] }, .fn (.func 205) [] []), (.str { data := #[97, 110, 100, 45, 114] }, .fn (.func 207) [] []), (.str { data := #[111, 114, 45, 108] }, .fn (.func 208) [] []), (.str { data := #[116, 104, 101, 110, 45, 114] }, .fn (.func 209) [] []), (.str { data := #[110, 111, 116, 45, 114] }, .fn (.func 210) [] [])] 0 = some none := by simp [findP_str]
 ((refine Sg.h ?_); try repeat' ((first | (with_reducible first | refine brA ?_ | refine brE fun _ => ?_ | (refine spl ⟨?_, ?_⟩ <;> intro _))) <;> ((try simp -implicitDefEqProofs [h1, h2, h3, h4, h5, h6, h7, h8, putP_none]); (try simp -implicitDefEqProofs (disch := first | assumption | (try simp only [lens]); omega -splitDisjunctions) [h1, h2, h3, h4, h5, h6, h7, h8, putP_none]))))
def x173 : XC := .seq (.reg [⟨some 0,.assign (.const (.map none)),none⟩]) (.seq (.reg [⟨some 1,.makeMap 231 none,none⟩,⟨none,.insert 231 (.tmp 1) (.const (.string ⟨#[111,114,45,114]⟩)) (.func 212),none⟩,⟨none,.insert 231 (.tmp 1) (.const (.string ⟨#[116,104,101,110,45,108]⟩)) (.func 213),none⟩,⟨none,.insert 231 (.tmp 1) (.const (.string ⟨#[110,111,116,45,108]⟩)) (.func 214),none⟩,⟨none,.insert 231 (.tmp 1) (.const (.string ⟨#[99,111,110,116,114,45,114]⟩)) (.func 215),none⟩,⟨none,.insert 231 (.tmp 1) (.const (.string ⟨#[99,117,116]⟩)) (.func 216),none⟩,⟨some 2,.move (.tmp 1),none⟩,⟨some 0,.assign (.tmp 2),none⟩]) .ret)
@[simp] theorem x173_s {C e s K} : type_of% (@X_at C e s K _ _ x173.eq_1) := X_at x173.eq_1
def an173 : Ann := ⟨[], [], []⟩
theorem fi173 : FI Try.prog 173 (cxA an173) x173 [.tmp 0] Try.f173 := fiA Try.func173 mixed
theorem classical_calculus : CallOK Try.prog 173 [] [] (.imap (entT classT)) [] := by
 refine fi173.op ?_
 unfold entT classT
 ((refine Sg.h ?_); try repeat' ((first | (with_reducible first | refine brA ?_ | refine brE fun _ => ?_ | (refine spl ⟨?_, ?_⟩ <;> intro _))) <;> ((try simp -implicitDefEqProofs [findP_str, putP_none]); (try simp -implicitDefEqProofs (disch := first | assumption | (try simp only [lens]); omega -splitDisjunctions) [findP_str, putP_none]))))
def x174 : XC := .seq (.reg [⟨some 0,.assign (.const (.map none)),none⟩]) (.seq (.reg [⟨some 1,.makeMap 231 none,none⟩,⟨some 2,.call ⟨.value (.func 217),#[.const (.int .i64 0)],#[3]⟩,none⟩,⟨none,.insert 231 (.tmp 1) (.const (.string ⟨#[111,114,45,114,49]⟩)) (.tmp 2),none⟩,⟨some 3,.call ⟨.value (.func 217),#[.const (.int .i64 1)],#[3]⟩,none⟩,⟨none,.insert 231 (.tmp 1) (.const (.string ⟨#[111,114,45,114,50]⟩)) (.tmp 3),none⟩,⟨none,.insert 231 (.tmp 1) (.const (.string ⟨#[116,104,101,110,45,108]⟩)) (.func 218),none⟩,⟨none,.insert 231 (.tmp 1) (.const (.string ⟨#[110,111,116,45,108]⟩)) (.func 219),none⟩,⟨none,.insert 231 (.tmp 1) (.const (.string ⟨#[99,117,116]⟩)) (.func 220),none⟩,⟨some 4,.move (.tmp 1),none⟩,⟨some 0,.assign (.tmp 4),none⟩]) .ret)
@[simp] theorem x174_s {C e s K} : type_of% (@X_at C e s K _ _ x174.eq_1) := X_at x174.eq_1
def an174 : Ann := ⟨[], [], []⟩
theorem fi174 : FI Try.prog 174 (cxA an174) x174 [.tmp 0] Try.f174 := fiA Try.func174 mixed
theorem intuitionistic_calculus : CallOK Try.prog 174 [] [] (.imap (entT intuT)) [] := by
 refine fi174.op ?_
 unfold entT intuT
 ((refine Sg.h ?_); try repeat' ((first | (with_reducible first | refine brA ?_ | refine brE fun _ => ?_ | (refine spl ⟨?_, ?_⟩ <;> intro _)) | refine clo (side_calculus 0) ?_ | refine clo (side_calculus 1) ?_) <;> ((try simp -implicitDefEqProofs [findP_str, putP_none]); (try simp -implicitDefEqProofs (disch := first | assumption | (try simp only [lens]); omega -splitDisjunctions) [findP_str, putP_none]))))
end Go.Proofs.Ytkadceiolddmhaa
namespace Go.Pv
open Go
inductive Pf where
 | mk (rule : ByteArray) (f : Fm) (l r : List Fm) (kids : List Pf)
 deriving Inhabited
def Pf.rule : Pf → ByteArray | .mk a _ _ _ _ => a
def Pf.f : Pf → Fm | .mk _ a _ _ _ => a
def Pf.l : Pf → List Fm | .mk _ _ a _ _ => a
def Pf.r : Pf → List Fm | .mk _ _ _ a _ => a
def Pf.kids : Pf → List Pf | .mk _ _ _ _ a => a
theorem Pf.ind {P : Pf → Prop} (h : ∀ p, (∀ q ∈ p.kids, P q) → P p) (p : Pf) : P p := by
 refine Pf.rec (motive_1 := P) (motive_2 := fun l => ∀ q ∈ l, P q) (fun a b c d l hl => h _ hl) (fun q hq => by cases hq) (fun a r ha hr q hq => ?_) p
 cases hq with
 | head => exact ha
 | tail _ hq => exact hr q hq
mutual
def prf : Pf → List PV
 | .mk a f l r ks => [.str a, .int .i64 f.kind, .str f.name, .list (f.kids.map frm), .list (l.map frm), .list (r.map frm), .list (prfs ks)]
def prfs : List Pf → List (List PV)
 | [] => []
 | p :: r => prf p :: prfs r
end
theorem prfs_eq (l : List Pf) : prfs l = l.map prf := by
 induction l with
 | nil => rfl
 | cons f r ih => rw [prfs, ih]; rfl
theorem prf_eq (p : Pf) : prf p = [.str p.rule, .int .i64 p.f.kind, .str p.f.name, .list (p.f.kids.map frm), .list (p.l.map frm), .list (p.r.map frm), .list (p.kids.map prf)] := by
 cases p with | mk a f l r ks => rw [prf, prfs_eq]; rfl
section
variable {p : Pf}
theorem prf_flat (p : Pf) : (prf p).all flatV = true := by rw [prf_eq]; rfl
@[simp] theorem prf_length : (prf p).length = 7 := by rw [prf_eq]; rfl
@[simp] theorem prf_cell : (prf p).all isCell = true := by rw [prf_eq]; rfl
@[simp] theorem prf_isCell : (∀ x ∈ prf p, isCell x = true) = True := by rw [prf_eq]; simp
@[simp] theorem prf_take7 : (prf p).take 7 = prf p := List.take_of_length_le (by simp)
@[simp] theorem prf_drop7 : (prf p).drop 7 = [] := List.drop_of_length_le (by simp)
@[simp] theorem prf_get0 : (prf p)[0]? = some (.str p.rule) := by rw [prf_eq]; rfl
@[simp] theorem prf_get1 : (prf p)[1]? = some (.int .i64 p.f.kind) := by rw [prf_eq]; rfl
@[simp] theorem prf_get2 : (prf p)[2]? = some (.str p.f.name) := by rw [prf_eq]; rfl
@[simp] theorem prf_get3 : (prf p)[3]? = some (.list (p.f.kids.map frm)) := by rw [prf_eq]; rfl
@[simp] theorem prf_get4 : (prf p)[4]? = some (.list (p.l.map frm)) := by rw [prf_eq]; rfl
@[simp] theorem prf_get5 : (prf p)[5]? = some (.list (p.r.map frm)) := by rw [prf_eq]; rfl
@[simp] theorem prf_get6 : (prf p)[6]? = some (.list (p.kids.map prf)) := by rw [prf_eq]; rfl
@[simp] theorem prf_ge0 (h : 0 < (prf p).length) : (prf p)[0] = .str p.rule := Option.some.inj ((List.getElem?_eq_getElem h).symm.trans prf_get0)
@[simp] theorem prf_ge6 (h : 6 < (prf p).length) : (prf p)[6] = .list (p.kids.map prf) := Option.some.inj ((List.getElem?_eq_getElem h).symm.trans prf_get6)
@[simp] theorem prf_ge4 (h : 4 < (prf p).length) : (prf p)[4] = .list (p.l.map frm) := Option.some.inj ((List.getElem?_eq_getElem h).symm.trans prf_get4)
@[simp] theorem prf_ge5 (h : 5 < (prf p).length) : (prf p)[5] = .list (p.r.map frm) := Option.some.inj ((List.getElem?_eq_getElem h).symm.trans prf_get5)
@[simp] theorem prf_ge1 (h : 1 < (prf p).length) : (prf p)[1] = .int .i64 p.f.kind := Option.some.inj ((List.getElem?_eq_getElem h).symm.trans prf_get1)
@[simp] theorem prf_ge2 (h : 2 < (prf p).length) : (prf p)[2] = .str p.f.name := Option.some.inj ((List.getElem?_eq_getElem h).symm.trans prf_get2)
@[simp] theorem prf_ge3 (h : 3 < (prf p).length) : (prf p)[3] = .list (p.f.kids.map frm) := Option.some.inj ((List.getElem?_eq_getElem h).symm.trans prf_get3)
@[simp] theorem prf_f : ((prf p).drop 1).take 3 = frm p.f := by rw [prf_eq, frm_eq]; rfl
@[simp] theorem prf_tl : List.take 3 (prf p).tail = frm p.f := by rw [prf_eq, frm_eq]; rfl
@[simp] theorem prf_end : ((prf p).drop 4).take 2 = [.list (p.l.map frm), .list (p.r.map frm)] := by rw [prf_eq]; rfl
@[simp] theorem prf_drop6 : (prf p).drop 6 = [.list (p.kids.map prf)] := by rw [prf_eq]; rfl
@[simp] theorem prf_drop5 : (prf p).drop 5 = [.list (p.r.map frm), .list (p.kids.map prf)] := by rw [prf_eq]; rfl
@[simp] theorem prf_renm {ρ : List Nat} {n : Nat} : (prf p).map (renN ρ n) = prf p := map_id_of (fun v => flat_ren) (prf_flat p)
@[simp] theorem prf_derefm {s : Store} {n : Nat} : (prf p).map (deref s n) = prf p := map_id_of (fun v => flat_deref) (prf_flat p)
@[simp] theorem prf_refs {n : Nat} : (prf p).flatMap (refsN n) = [] := by rw [prf_eq]; simp
@[simp] theorem prf_soft : (prf p).map soft1 = prf p := by rw [prf_eq]; rfl
@[simp] theorem prf_frz {F : List Nat} {s : Store} : (prf p).map (frzV F s) = prf p := map_id_of (fun v => frzV_flat) (prf_flat p)
@[simp] theorem prf_up {ρ : List Nat} {n : Nat} : (prf p).map (upN ρ n) = prf p := map_id_of (fun v => flat_up) (prf_flat p)
instance : FlatRow prf := ⟨prf_flat⟩
@[simp] theorem cl_prf : Closed (.agg (prf p)) := closed_agg (by rw [prf_eq]; simp)
end
end Go.Pv
