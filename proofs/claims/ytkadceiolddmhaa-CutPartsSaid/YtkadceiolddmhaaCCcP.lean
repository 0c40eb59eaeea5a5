import Derived.Test.YtkadceiolddmhaaCPvQg
set_option linter.unusedVariables false
set_option linter.unusedSimpArgs false
namespace Go.Pv
open Go
inductive Pf where
 | mk (rule : ByteArray) (f : Fm) (l r : List Fm) (kids : List Pf)
 deriving Inhabited
def Pf.rule : Pf → ByteArray | .mk a _ _ _ _ => a
def Pf.f : Pf → Fm | .mk _ a _ _ _ => a
def Pf.l : Pf → List Fm | .mk _ _ a _ _ => a
def Pf.r : Pf → List Fm | .mk _ _ _ a _ => a
def Pf.kids : Pf → List Pf | .mk _ _ _ _ a => a
theorem Pf.ind {P : Pf → Prop} (h : ∀ p, (∀ q ∈ p.kids, P q) → P p) (p : Pf) : P p := by
 refine Pf.rec (motive_1 := P) (motive_2 := fun l => ∀ q ∈ l, P q) (fun a b c d l hl => h _ hl) (fun q hq => by cases hq) (fun a r ha hr q hq => ?_) p
 cases hq with
 | head => exact ha
 | tail _ hq => exact hr q hq
mutual
def prf : Pf → List PV
 | .mk a f l r ks => [.str a, .int .i64 f.kind, .str f.name, .list (f.kids.map frm), .list (l.map frm), .list (r.map frm), .list (prfs ks)]
def prfs : List Pf → List (List PV)
 | [] => []
 | p :: r => prf p :: prfs r
end
theorem prfs_eq (l : List Pf) : prfs l = l.map prf := by
 induction l with
 | nil => rfl
 | cons f r ih => rw [prfs, ih]; rfl
theorem prf_eq (p : Pf) : prf p = [.str p.rule, .int .i64 p.f.kind, .str p.f.name, .list (p.f.kids.map frm), .list (p.l.map frm), .list (p.r.map frm), .list (p.kids.map prf)] := by
 cases p with | mk a f l r ks => rw [prf, prfs_eq]; rfl
section
variable {p : Pf}
theorem prf_flat (p : Pf) : (prf p).all flatV = true := by rw [prf_eq]; rfl
@[simp] theorem prf_length : (prf p).length = 7 := by rw [prf_eq]; rfl
@[simp] theorem prf_cell : (prf p).all isCell = true := by rw [prf_eq]; rfl
@[simp] theorem prf_isCell : (∀ x ∈ prf p, isCell x = true) = True := by rw [prf_eq]; simp
@[simp] theorem prf_take7 : (prf p).take 7 = prf p := List.take_of_length_le (by simp)
@[simp] theorem prf_drop7 : (prf p).drop 7 = [] := List.drop_of_length_le (by simp)
@[simp] theorem prf_get0 : (prf p)[0]? = some (.str p.rule) := by rw [prf_eq]; rfl
@[simp] theorem prf_get1 : (prf p)[1]? = some (.int .i64 p.f.kind) := by rw [prf_eq]; rfl
@[simp] theorem prf_get2 : (prf p)[2]? = some (.str p.f.name) := by rw [prf_eq]; rfl
@[simp] theorem prf_get3 : (prf p)[3]? = some (.list (p.f.kids.map frm)) := by rw [prf_eq]; rfl
@[simp] theorem prf_get4 : (prf p)[4]? = some (.list (p.l.map frm)) := by rw [prf_eq]; rfl
@[simp] theorem prf_get5 : (prf p)[5]? = some (.list (p.r.map frm)) := by rw [prf_eq]; rfl
@[simp] theorem prf_get6 : (prf p)[6]? = some (.list (p.kids.map prf)) := by rw [prf_eq]; rfl
@[simp] theorem prf_ge0 (h : 0 < (prf p).length) : (prf p)[0] = .str p.rule := Option.some.inj ((List.getElem?_eq_getElem h).symm.trans prf_get0)
@[simp] theorem prf_ge6 (h : 6 < (prf p).length) : (prf p)[6] = .list (p.kids.map prf) := Option.some.inj ((List.getElem?_eq_getElem h).symm.trans prf_get6)
@[simp] theorem prf_ge4 (h : 4 < (prf p).length) : (prf p)[4] = .list (p.l.map frm) := Option.some.inj ((List.getElem?_eq_getElem h).symm.trans prf_get4)
@[simp] theorem prf_ge5 (h : 5 < (prf p).length) : (prf p)[5] = .list (p.r.map frm) := Option.some.inj ((List.getElem?_eq_getElem h).symm.trans prf_get5)
@[simp] theorem prf_ge1 (h : 1 < (prf p).length) : (prf p)[1] = .int .i64 p.f.kind := Option.some.inj ((List.getElem?_eq_getElem h).symm.trans prf_get1)
@[simp] theorem prf_ge2 (h : 2 < (prf p).length) : (prf p)[2] = .str p.f.name := Option.some.inj ((List.getElem?_eq_getElem h).symm.trans prf_get2)
@[simp] theorem prf_ge3 (h : 3 < (prf p).length) : (prf p)[3] = .list (p.f.kids.map frm) := Option.some.inj ((List.getElem?_eq_getElem h).symm.trans prf_get3)
@[simp] theorem prf_f : ((prf p).drop 1).take 3 = frm p.f := by rw [prf_eq, frm_eq]; rfl
@[simp] theorem prf_tl : List.take 3 (prf p).tail = frm p.f := by rw [prf_eq, frm_eq]; rfl
@[simp] theorem prf_end : ((prf p).drop 4).take 2 = [.list (p.l.map frm), .list (p.r.map frm)] := by rw [prf_eq]; rfl
@[simp] theorem prf_drop6 : (prf p).drop 6 = [.list (p.kids.map prf)] := by rw [prf_eq]; rfl
@[simp] theorem prf_drop5 : (prf p).drop 5 = [.list (p.r.map frm), .list (p.kids.map prf)] := by rw [prf_eq]; rfl
@[simp] theorem prf_renm {ρ : List Nat} {n : Nat} : (prf p).map (renN ρ n) = prf p := map_id_of (fun v => flat_ren) (prf_flat p)
@[simp] theorem prf_derefm {s : Store} {n : Nat} : (prf p).map (deref s n) = prf p := map_id_of (fun v => flat_deref) (prf_flat p)
@[simp] theorem prf_refs {n : Nat} : (prf p).flatMap (refsN n) = [] := by rw [prf_eq]; simp
@[simp] theorem prf_soft : (prf p).map soft1 = prf p := by rw [prf_eq]; rfl
@[simp] theorem prf_frz {F : List Nat} {s : Store} : (prf p).map (frzV F s) = prf p := map_id_of (fun v => frzV_flat) (prf_flat p)
@[simp] theorem prf_up {ρ : List Nat} {n : Nat} : (prf p).map (upN ρ n) = prf p := map_id_of (fun v => flat_up) (prf_flat p)
instance : FlatRow prf := ⟨prf_flat⟩
@[simp] theorem cl_prf : Closed (.agg (prf p)) := closed_agg (by rw [prf_eq]; simp)
end
end Go.Pv
