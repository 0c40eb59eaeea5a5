import Derived.Test.YtbimioonhfhflaaDPvQg
import Derived.Test.YtbimioonhfhflaaDPvWalk
import Derived.Test.YtbimioonhfhflaaChecked
set_option linter.unusedVariables false
set_option linter.unusedSimpArgs false
namespace Go.Pv
open Go
inductive Wd where
 | mk (nm : ByteArray) (args : List Wd)
 deriving Inhabited
def Wd.nm : Wd → ByteArray | .mk a _=>a
def Wd.args : Wd → List Wd | .mk _ a=>a
@[simp] theorem wd_mk {a : ByteArray} {l : List Wd} : (Wd.mk a l).nm = a ∧ (Wd.mk a l).args = l:=⟨rfl,rfl⟩
theorem Wd.ind {P : Wd → Prop} (h : ∀ p,(∀ q ∈ p.args,P q) → P p) (p : Wd) : P p:=by
 refine Wd.rec (motive_1:=P) (motive_2:=fun l=>∀ q ∈ l,P q) (fun a l hl=>h _ hl) (fun q hq=>by cases hq) (fun a r ha hr q hq=>?_) p
 cases hq with
 | head=>exact ha
 | tail _ hq=>exact hr q hq
mutual
def wrd : Wd → List PV
 | .mk a l=>[.str a,.list (wrds l)]
def wrds : List Wd → List (List PV)
 | []=>[]
 | p :: r=>wrd p :: wrds r
end
theorem wrds_eq (l : List Wd) : wrds l = l.map wrd:=by
 induction l with
 | nil=>rfl
 | cons f r ih=>rw [wrds,ih];rfl
theorem wrd_eq (p : Wd) : wrd p = [.str p.nm,.list (p.args.map wrd)]:=by
 cases p with | mk a l=>rw [wrd,wrds_eq];rfl
section
variable {p : Wd}
theorem wrd_flat (p : Wd) : (wrd p).all flatV = true:=by rw [wrd_eq];rfl
@[simp] theorem wrd_length : (wrd p).length = 2:=by rw [wrd_eq];rfl
@[simp] theorem wrd_cell : (wrd p).all isCell = true:=by rw [wrd_eq];rfl
@[simp] theorem wrd_isCell : (∀ x ∈ wrd p,isCell x = true) = True:=by rw [wrd_eq];simp
@[simp] theorem wrd_take2 : (wrd p).take 2 = wrd p:=List.take_of_length_le (by simp)
@[simp] theorem wrd_get0 : (wrd p)[0]? = some (.str p.nm):=by rw [wrd_eq];rfl
@[simp] theorem wrd_ge0 (h : 0 < (wrd p).length) : (wrd p)[0] = .str p.nm:=Option.some.inj ((List.getElem?_eq_getElem h).symm.trans wrd_get0)
@[simp] theorem wrd_get1 : (wrd p)[1]? = some (.list (p.args.map wrd)):=by rw [wrd_eq];rfl
@[simp] theorem wrd_ge1 (h : 1 < (wrd p).length) : (wrd p)[1] = .list (p.args.map wrd):=Option.some.inj ((List.getElem?_eq_getElem h).symm.trans wrd_get1)
@[simp] theorem wrd_drop1 : (wrd p).drop 1 = [.list (p.args.map wrd)]:=by rw [wrd_eq];rfl
@[simp] theorem wrd_drop2 : (wrd p).drop 2 = []:=by rw [wrd_eq];rfl
@[simp] theorem wrd_tail : (wrd p).tail = [.list (p.args.map wrd)]:=by rw [wrd_eq];rfl
@[simp] theorem wrd_renm {ρ : List Nat} {n : Nat} : (wrd p).map (renN ρ n) = wrd p:=map_id_of (fun v=>flat_ren) (wrd_flat p)
@[simp] theorem wrd_derefm {s : Store} {n : Nat} : (wrd p).map (deref s n) = wrd p:=map_id_of (fun v=>flat_deref) (wrd_flat p)
@[simp] theorem wrd_frz {F : List Nat} {s : Store} : (wrd p).map (frzV F s) = wrd p:=map_id_of (fun v=>frzV_flat) (wrd_flat p)
@[simp] theorem wrd_up {ρ : List Nat} {n : Nat} : (wrd p).map (upN ρ n) = wrd p:=map_id_of (fun v=>flat_up) (wrd_flat p)
@[simp] theorem wrd_refs {n : Nat} : (wrd p).flatMap (refsN n) = []:=by rw [wrd_eq];simp
@[simp] theorem wrd_soft : (wrd p).map soft1 = wrd p:=by rw [wrd_eq];rfl
instance : FlatRow wrd:=⟨wrd_flat⟩
@[simp] theorem cl_wrd : Closed (.agg (wrd p)):=closed_agg (by rw [wrd_eq];simp)
end
inductive Ex where
 | mk (k : Int) (nm : ByteArray) (words : List Wd) (kids : List Ex)
 deriving Inhabited
def Ex.k : Ex → Int | .mk a _ _ _=>a
def Ex.nm : Ex → ByteArray | .mk _ a _ _=>a
def Ex.words : Ex → List Wd | .mk _ _ a _=>a
def Ex.kids : Ex → List Ex | .mk _ _ _ a=>a
@[simp] theorem ex_mk {k : Int} {a : ByteArray} {w : List Wd} {l : List Ex} : (Ex.mk k a w l).k = k ∧ (Ex.mk k a w l).nm = a ∧ (Ex.mk k a w l).words = w ∧ (Ex.mk k a w l).kids = l:=⟨rfl,rfl,rfl,rfl⟩
theorem Ex.ind {P : Ex → Prop} (h : ∀ p,(∀ q ∈ p.kids,P q) → P p) (p : Ex) : P p:=by
 refine Ex.rec (motive_1:=P) (motive_2:=fun l=>∀ q ∈ l,P q) (fun a b c l hl=>h _ hl) (fun q hq=>by cases hq) (fun a r ha hr q hq=>?_) p
 cases hq with
 | head=>exact ha
 | tail _ hq=>exact hr q hq
mutual
def exr : Ex → List PV
 | .mk k a w l=>[.int .i64 k,.str a,.list (w.map wrd),.list (exrs l)]
def exrs : List Ex → List (List PV)
 | []=>[]
 | p :: r=>exr p :: exrs r
end
theorem exrs_eq (l : List Ex) : exrs l = l.map exr:=by
 induction l with
 | nil=>rfl
 | cons f r ih=>rw [exrs,ih];rfl
theorem exr_eq (p : Ex) : exr p = [.int .i64 p.k,.str p.nm,.list (p.words.map wrd),.list (p.kids.map exr)]:=by
 cases p with | mk k a w l=>rw [exr,exrs_eq];rfl
section
variable {p : Ex}
theorem exr_flat (p : Ex) : (exr p).all flatV = true:=by rw [exr_eq];rfl
@[simp] theorem exr_length : (exr p).length = 4:=by rw [exr_eq];rfl
@[simp] theorem exr_cell : (exr p).all isCell = true:=by rw [exr_eq];rfl
@[simp] theorem exr_isCell : (∀ x ∈ exr p,isCell x = true) = True:=by rw [exr_eq];simp
@[simp] theorem exr_take4 : (exr p).take 4 = exr p:=List.take_of_length_le (by simp)
@[simp] theorem exr_get0 : (exr p)[0]? = some (.int .i64 p.k):=by rw [exr_eq];rfl
@[simp] theorem exr_ge0 (h : 0 < (exr p).length) : (exr p)[0] = .int .i64 p.k:=Option.some.inj ((List.getElem?_eq_getElem h).symm.trans exr_get0)
@[simp] theorem exr_get1 : (exr p)[1]? = some (.str p.nm):=by rw [exr_eq];rfl
@[simp] theorem exr_ge1 (h : 1 < (exr p).length) : (exr p)[1] = .str p.nm:=Option.some.inj ((List.getElem?_eq_getElem h).symm.trans exr_get1)
@[simp] theorem exr_get2 : (exr p)[2]? = some (.list (p.words.map wrd)):=by rw [exr_eq];rfl
@[simp] theorem exr_ge2 (h : 2 < (exr p).length) : (exr p)[2] = .list (p.words.map wrd):=Option.some.inj ((List.getElem?_eq_getElem h).symm.trans exr_get2)
@[simp] theorem exr_get3 : (exr p)[3]? = some (.list (p.kids.map exr)):=by rw [exr_eq];rfl
@[simp] theorem exr_ge3 (h : 3 < (exr p).length) : (exr p)[3] = .list (p.kids.map exr):=Option.some.inj ((List.getElem?_eq_getElem h).symm.trans exr_get3)
@[simp] theorem exr_drop1 : (exr p).drop 1 = [.str p.nm,.list (p.words.map wrd),.list (p.kids.map exr)]:=by rw [exr_eq];rfl
@[simp] theorem exr_drop2 : (exr p).drop 2 = [.list (p.words.map wrd),.list (p.kids.map exr)]:=by rw [exr_eq];rfl
@[simp] theorem exr_drop3 : (exr p).drop 3 = [.list (p.kids.map exr)]:=by rw [exr_eq];rfl
@[simp] theorem exr_drop4 : (exr p).drop 4 = []:=by rw [exr_eq];rfl
@[simp] theorem exr_tail : (exr p).tail = [.str p.nm,.list (p.words.map wrd),.list (p.kids.map exr)]:=by rw [exr_eq];rfl
@[simp] theorem exr_renm {ρ : List Nat} {n : Nat} : (exr p).map (renN ρ n) = exr p:=map_id_of (fun v=>flat_ren) (exr_flat p)
@[simp] theorem exr_derefm {s : Store} {n : Nat} : (exr p).map (deref s n) = exr p:=map_id_of (fun v=>flat_deref) (exr_flat p)
@[simp] theorem exr_frz {F : List Nat} {s : Store} : (exr p).map (frzV F s) = exr p:=map_id_of (fun v=>frzV_flat) (exr_flat p)
@[simp] theorem exr_up {ρ : List Nat} {n : Nat} : (exr p).map (upN ρ n) = exr p:=map_id_of (fun v=>flat_up) (exr_flat p)
@[simp] theorem exr_refs {n : Nat} : (exr p).flatMap (refsN n) = []:=by rw [exr_eq];simp
@[simp] theorem exr_soft : (exr p).map soft1 = exr p:=by rw [exr_eq];rfl
instance : FlatRow exr:=⟨exr_flat⟩
@[simp] theorem cl_exr : Closed (.agg (exr p)):=closed_agg (by rw [exr_eq];simp)
end
end Go.Pv
namespace Go.Proofs.Ytbimioonhfhflaa
open Go Go.Pv
theorem ty1 : tinfo Try.prog 1 = some ⟨1,false,(some [.nilfn]),.fn,none⟩:=by kernel_rfl
theorem zo1 : zeroOf Try.prog 1 = (some [.nilfn]):=by kernel_rfl
instance : TyT Try.prog 1 ⟨1,false,(some [.nilfn]),.fn,none⟩:=⟨ty1⟩
instance : ZoT Try.prog 1 (some [.nilfn]):=⟨zo1⟩
theorem ty2 : tinfo Try.prog 2 = some ⟨1,false,(some [.int .i64 0]),.int .i64,none⟩:=by kernel_rfl
theorem zo2 : zeroOf Try.prog 2 = (some [.int .i64 0]):=by kernel_rfl
instance : TyT Try.prog 2 ⟨1,false,(some [.int .i64 0]),.int .i64,none⟩:=⟨ty2⟩
instance : ZoT Try.prog 2 (some [.int .i64 0]):=⟨zo2⟩
theorem ty3 : tinfo Try.prog 3 = some ⟨1,false,(some [.int .i64 0]),.int .i64,none⟩:=by kernel_rfl
theorem zo3 : zeroOf Try.prog 3 = (some [.int .i64 0]):=by kernel_rfl
instance : TyT Try.prog 3 ⟨1,false,(some [.int .i64 0]),.int .i64,none⟩:=⟨ty3⟩
instance : ZoT Try.prog 3 (some [.int .i64 0]):=⟨zo3⟩
theorem ty4 : tinfo Try.prog 4 = some ⟨1,false,(some [.bool false]),.bool,none⟩:=by kernel_rfl
theorem zo4 : zeroOf Try.prog 4 = (some [.bool false]):=by kernel_rfl
instance : TyT Try.prog 4 ⟨1,false,(some [.bool false]),.bool,none⟩:=⟨ty4⟩
instance : ZoT Try.prog 4 (some [.bool false]):=⟨zo4⟩
theorem ty5 : tinfo Try.prog 5 = some ⟨1,false,(some [.int .u8 0]),.int .u8,none⟩:=by kernel_rfl
theorem zo5 : zeroOf Try.prog 5 = (some [.int .u8 0]):=by kernel_rfl
instance : TyT Try.prog 5 ⟨1,false,(some [.int .u8 0]),.int .u8,none⟩:=⟨ty5⟩
instance : ZoT Try.prog 5 (some [.int .u8 0]):=⟨zo5⟩
theorem ty9 : tinfo Try.prog 9 = some ⟨1,false,(some [.str ⟨#[]⟩]),.string,none⟩:=by kernel_rfl
theorem zo9 : zeroOf Try.prog 9 = (some [.str ⟨#[]⟩]):=by kernel_rfl
instance : TyT Try.prog 9 ⟨1,false,(some [.str ⟨#[]⟩]),.string,none⟩:=⟨ty9⟩
instance : ZoT Try.prog 9 (some [.str ⟨#[]⟩]):=⟨zo9⟩
theorem ty12 : tinfo Try.prog 12 = some ⟨1,false,(some [.int .u64 0]),.int .u64,none⟩:=by kernel_rfl
theorem zo12 : zeroOf Try.prog 12 = (some [.int .u64 0]):=by kernel_rfl
instance : TyT Try.prog 12 ⟨1,false,(some [.int .u64 0]),.int .u64,none⟩:=⟨ty12⟩
instance : ZoT Try.prog 12 (some [.int .u64 0]):=⟨zo12⟩
theorem ty21 : tinfo Try.prog 21 = some ⟨1,false,(some [.int .i32 0]),.int .i32,none⟩:=by kernel_rfl
theorem zo21 : zeroOf Try.prog 21 = (some [.int .i32 0]):=by kernel_rfl
instance : TyT Try.prog 21 ⟨1,false,(some [.int .i32 0]),.int .i32,none⟩:=⟨ty21⟩
instance : ZoT Try.prog 21 (some [.int .i32 0]):=⟨zo21⟩
theorem ty22 : tinfo Try.prog 22 = some ⟨1,false,(some [.nilsl]),.slice 57 3 48 true (some [.str ⟨#[]⟩,.int .i64 0,.nilsl]),none⟩:=by kernel_rfl
theorem zo22 : zeroOf Try.prog 22 = (some [.nilsl]):=by kernel_rfl
instance : TyT Try.prog 22 ⟨1,false,(some [.nilsl]),.slice 57 3 48 true (some [.str ⟨#[]⟩,.int .i64 0,.nilsl]),none⟩:=⟨ty22⟩
instance : ZoT Try.prog 22 (some [.nilsl]):=⟨zo22⟩
theorem ty23 : tinfo Try.prog 23 = some ⟨1,false,(some [.nilsl]),.slice 61 3 48 true (some [.str ⟨#[]⟩,.int .i64 0,.nilsl]),none⟩:=by kernel_rfl
theorem zo23 : zeroOf Try.prog 23 = (some [.nilsl]):=by kernel_rfl
instance : TyT Try.prog 23 ⟨1,false,(some [.nilsl]),.slice 61 3 48 true (some [.str ⟨#[]⟩,.int .i64 0,.nilsl]),none⟩:=⟨ty23⟩
instance : ZoT Try.prog 23 (some [.nilsl]):=⟨zo23⟩
theorem ty24 : tinfo Try.prog 24 = some ⟨3,true,(some [.int .i64 0,.nilsl,.nilsl]),.struct [(0,3,1,false),(1,22,1,false),(2,23,1,false)],(some [(0,.int .i64),(1,.other),(2,.other)])⟩:=by kernel_rfl
theorem zo24 : zeroOf Try.prog 24 = (some [.int .i64 0,.nilsl,.nilsl]):=by kernel_rfl
instance : TyT Try.prog 24 ⟨3,true,(some [.int .i64 0,.nilsl,.nilsl]),.struct [(0,3,1,false),(1,22,1,false),(2,23,1,false)],(some [(0,.int .i64),(1,.other),(2,.other)])⟩:=⟨ty24⟩
instance : ZoT Try.prog 24 (some [.int .i64 0,.nilsl,.nilsl]):=⟨zo24⟩
theorem ty25 : tinfo Try.prog 25 = some ⟨3,true,(some [.int .i64 0,.nilsl,.nilsl]),.struct [(0,3,1,false),(1,22,1,false),(2,23,1,false)],(some [(0,.int .i64),(1,.other),(2,.other)])⟩:=by kernel_rfl
theorem zo25 : zeroOf Try.prog 25 = (some [.int .i64 0,.nilsl,.nilsl]):=by kernel_rfl
instance : TyT Try.prog 25 ⟨3,true,(some [.int .i64 0,.nilsl,.nilsl]),.struct [(0,3,1,false),(1,22,1,false),(2,23,1,false)],(some [(0,.int .i64),(1,.other),(2,.other)])⟩:=⟨ty25⟩
instance : ZoT Try.prog 25 (some [.int .i64 0,.nilsl,.nilsl]):=⟨zo25⟩
theorem ty26 : tinfo Try.prog 26 = some ⟨1,false,(some [.nilsl]),.slice 31 2 40 true (some [.str ⟨#[]⟩,.nilsl]),none⟩:=by kernel_rfl
theorem zo26 : zeroOf Try.prog 26 = (some [.nilsl]):=by kernel_rfl
instance : TyT Try.prog 26 ⟨1,false,(some [.nilsl]),.slice 31 2 40 true (some [.str ⟨#[]⟩,.nilsl]),none⟩:=⟨ty26⟩
instance : ZoT Try.prog 26 (some [.nilsl]):=⟨zo26⟩
theorem ty27 : tinfo Try.prog 27 = some ⟨1,false,(some [.nilsl]),.slice 29 4 72 true (some [.int .i64 0,.str ⟨#[]⟩,.nilsl,.nilsl]),none⟩:=by kernel_rfl
theorem zo27 : zeroOf Try.prog 27 = (some [.nilsl]):=by kernel_rfl
instance : TyT Try.prog 27 ⟨1,false,(some [.nilsl]),.slice 29 4 72 true (some [.int .i64 0,.str ⟨#[]⟩,.nilsl,.nilsl]),none⟩:=⟨ty27⟩
instance : ZoT Try.prog 27 (some [.nilsl]):=⟨zo27⟩
theorem ty28 : tinfo Try.prog 28 = some ⟨4,true,(some [.int .i64 0,.str ⟨#[]⟩,.nilsl,.nilsl]),.struct [(0,3,1,false),(1,9,1,false),(2,26,1,false),(3,27,1,false)],(some [(0,.int .i64),(1,.string),(2,.other),(3,.other)])⟩:=by kernel_rfl
theorem zo28 : zeroOf Try.prog 28 = (some [.int .i64 0,.str ⟨#[]⟩,.nilsl,.nilsl]):=by kernel_rfl
instance : TyT Try.prog 28 ⟨4,true,(some [.int .i64 0,.str ⟨#[]⟩,.nilsl,.nilsl]),.struct [(0,3,1,false),(1,9,1,false),(2,26,1,false),(3,27,1,false)],(some [(0,.int .i64),(1,.string),(2,.other),(3,.other)])⟩:=⟨ty28⟩
instance : ZoT Try.prog 28 (some [.int .i64 0,.str ⟨#[]⟩,.nilsl,.nilsl]):=⟨zo28⟩
theorem ty29 : tinfo Try.prog 29 = some ⟨4,true,(some [.int .i64 0,.str ⟨#[]⟩,.nilsl,.nilsl]),.struct [(0,3,1,false),(1,9,1,false),(2,26,1,false),(3,27,1,false)],(some [(0,.int .i64),(1,.string),(2,.other),(3,.other)])⟩:=by kernel_rfl
theorem zo29 : zeroOf Try.prog 29 = (some [.int .i64 0,.str ⟨#[]⟩,.nilsl,.nilsl]):=by kernel_rfl
instance : TyT Try.prog 29 ⟨4,true,(some [.int .i64 0,.str ⟨#[]⟩,.nilsl,.nilsl]),.struct [(0,3,1,false),(1,9,1,false),(2,26,1,false),(3,27,1,false)],(some [(0,.int .i64),(1,.string),(2,.other),(3,.other)])⟩:=⟨ty29⟩
instance : ZoT Try.prog 29 (some [.int .i64 0,.str ⟨#[]⟩,.nilsl,.nilsl]):=⟨zo29⟩
theorem ty30 : tinfo Try.prog 30 = some ⟨2,true,(some [.str ⟨#[]⟩,.nilsl]),.struct [(0,9,1,false),(1,26,1,false)],(some [(0,.string),(1,.other)])⟩:=by kernel_rfl
theorem zo30 : zeroOf Try.prog 30 = (some [.str ⟨#[]⟩,.nilsl]):=by kernel_rfl
instance : TyT Try.prog 30 ⟨2,true,(some [.str ⟨#[]⟩,.nilsl]),.struct [(0,9,1,false),(1,26,1,false)],(some [(0,.string),(1,.other)])⟩:=⟨ty30⟩
instance : ZoT Try.prog 30 (some [.str ⟨#[]⟩,.nilsl]):=⟨zo30⟩
theorem ty31 : tinfo Try.prog 31 = some ⟨2,true,(some [.str ⟨#[]⟩,.nilsl]),.struct [(0,9,1,false),(1,26,1,false)],(some [(0,.string),(1,.other)])⟩:=by kernel_rfl
theorem zo31 : zeroOf Try.prog 31 = (some [.str ⟨#[]⟩,.nilsl]):=by kernel_rfl
instance : TyT Try.prog 31 ⟨2,true,(some [.str ⟨#[]⟩,.nilsl]),.struct [(0,9,1,false),(1,26,1,false)],(some [(0,.string),(1,.other)])⟩:=⟨ty31⟩
instance : ZoT Try.prog 31 (some [.str ⟨#[]⟩,.nilsl]):=⟨zo31⟩
theorem ty32 : tinfo Try.prog 32 = some ⟨1,false,(some [.nilsl]),.slice 9 1 16 false (some [.str ⟨#[]⟩]),none⟩:=by kernel_rfl
theorem zo32 : zeroOf Try.prog 32 = (some [.nilsl]):=by kernel_rfl
instance : TyT Try.prog 32 ⟨1,false,(some [.nilsl]),.slice 9 1 16 false (some [.str ⟨#[]⟩]),none⟩:=⟨ty32⟩
instance : ZoT Try.prog 32 (some [.nilsl]):=⟨zo32⟩
theorem ty33 : tinfo Try.prog 33 = some ⟨1,false,(some [.nilsl]),.slice 3 1 8 false (some [.int .i64 0]),none⟩:=by kernel_rfl
theorem zo33 : zeroOf Try.prog 33 = (some [.nilsl]):=by kernel_rfl
instance : TyT Try.prog 33 ⟨1,false,(some [.nilsl]),.slice 3 1 8 false (some [.int .i64 0]),none⟩:=⟨ty33⟩
instance : ZoT Try.prog 33 (some [.nilsl]):=⟨zo33⟩
theorem ty34 : tinfo Try.prog 34 = some ⟨1,false,(some [.nilfn]),.fn,none⟩:=by kernel_rfl
theorem zo34 : zeroOf Try.prog 34 = (some [.nilfn]):=by kernel_rfl
instance : TyT Try.prog 34 ⟨1,false,(some [.nilfn]),.fn,none⟩:=⟨ty34⟩
instance : ZoT Try.prog 34 (some [.nilfn]):=⟨zo34⟩
theorem ty35 : tinfo Try.prog 35 = some ⟨1,false,(some [.nilfn]),.fn,none⟩:=by kernel_rfl
theorem zo35 : zeroOf Try.prog 35 = (some [.nilfn]):=by kernel_rfl
instance : TyT Try.prog 35 ⟨1,false,(some [.nilfn]),.fn,none⟩:=⟨ty35⟩
instance : ZoT Try.prog 35 (some [.nilfn]):=⟨zo35⟩
theorem ty37 : tinfo Try.prog 37 = some ⟨1,false,(some [.nilfn]),.fn,none⟩:=by kernel_rfl
theorem zo37 : zeroOf Try.prog 37 = (some [.nilfn]):=by kernel_rfl
instance : TyT Try.prog 37 ⟨1,false,(some [.nilfn]),.fn,none⟩:=⟨ty37⟩
instance : ZoT Try.prog 37 (some [.nilfn]):=⟨zo37⟩
theorem ty39 : tinfo Try.prog 39 = some ⟨2,true,(some [.int .i64 0,.int .i64 0]),.struct [(0,3,1,false),(1,3,1,false)],(some [(0,.int .i64),(1,.int .i64)])⟩:=by kernel_rfl
theorem zo39 : zeroOf Try.prog 39 = (some [.int .i64 0,.int .i64 0]):=by kernel_rfl
instance : TyT Try.prog 39 ⟨2,true,(some [.int .i64 0,.int .i64 0]),.struct [(0,3,1,false),(1,3,1,false)],(some [(0,.int .i64),(1,.int .i64)])⟩:=⟨ty39⟩
instance : ZoT Try.prog 39 (some [.int .i64 0,.int .i64 0]):=⟨zo39⟩
theorem ty40 : tinfo Try.prog 40 = some ⟨1,false,(some [.nilfn]),.fn,none⟩:=by kernel_rfl
theorem zo40 : zeroOf Try.prog 40 = (some [.nilfn]):=by kernel_rfl
instance : TyT Try.prog 40 ⟨1,false,(some [.nilfn]),.fn,none⟩:=⟨ty40⟩
instance : ZoT Try.prog 40 (some [.nilfn]):=⟨zo40⟩
theorem ty42 : tinfo Try.prog 42 = some ⟨1,false,(some [.nilfn]),.fn,none⟩:=by kernel_rfl
theorem zo42 : zeroOf Try.prog 42 = (some [.nilfn]):=by kernel_rfl
instance : TyT Try.prog 42 ⟨1,false,(some [.nilfn]),.fn,none⟩:=⟨ty42⟩
instance : ZoT Try.prog 42 (some [.nilfn]):=⟨zo42⟩
theorem ty43 : tinfo Try.prog 43 = some ⟨1,false,(some [.nilfn]),.fn,none⟩:=by kernel_rfl
theorem zo43 : zeroOf Try.prog 43 = (some [.nilfn]):=by kernel_rfl
instance : TyT Try.prog 43 ⟨1,false,(some [.nilfn]),.fn,none⟩:=⟨ty43⟩
instance : ZoT Try.prog 43 (some [.nilfn]):=⟨zo43⟩
theorem ty45 : tinfo Try.prog 45 = some ⟨1,false,(some [.nilfn]),.fn,none⟩:=by kernel_rfl
theorem zo45 : zeroOf Try.prog 45 = (some [.nilfn]):=by kernel_rfl
instance : TyT Try.prog 45 ⟨1,false,(some [.nilfn]),.fn,none⟩:=⟨ty45⟩
instance : ZoT Try.prog 45 (some [.nilfn]):=⟨zo45⟩
theorem ty46 : tinfo Try.prog 46 = some ⟨1,false,(some [.nilfn]),.fn,none⟩:=by kernel_rfl
theorem zo46 : zeroOf Try.prog 46 = (some [.nilfn]):=by kernel_rfl
instance : TyT Try.prog 46 ⟨1,false,(some [.nilfn]),.fn,none⟩:=⟨ty46⟩
instance : ZoT Try.prog 46 (some [.nilfn]):=⟨zo46⟩
theorem ty47 : tinfo Try.prog 47 = some ⟨1,false,(some [.nilfn]),.fn,none⟩:=by kernel_rfl
theorem zo47 : zeroOf Try.prog 47 = (some [.nilfn]):=by kernel_rfl
instance : TyT Try.prog 47 ⟨1,false,(some [.nilfn]),.fn,none⟩:=⟨ty47⟩
instance : ZoT Try.prog 47 (some [.nilfn]):=⟨zo47⟩
theorem ty49 : tinfo Try.prog 49 = some ⟨1,false,(some [.nilfn]),.fn,none⟩:=by kernel_rfl
theorem zo49 : zeroOf Try.prog 49 = (some [.nilfn]):=by kernel_rfl
instance : TyT Try.prog 49 ⟨1,false,(some [.nilfn]),.fn,none⟩:=⟨ty49⟩
instance : ZoT Try.prog 49 (some [.nilfn]):=⟨zo49⟩
theorem ty50 : tinfo Try.prog 50 = some ⟨1,false,(some [.nilfn]),.fn,none⟩:=by kernel_rfl
theorem zo50 : zeroOf Try.prog 50 = (some [.nilfn]):=by kernel_rfl
instance : TyT Try.prog 50 ⟨1,false,(some [.nilfn]),.fn,none⟩:=⟨ty50⟩
instance : ZoT Try.prog 50 (some [.nilfn]):=⟨zo50⟩
theorem ty51 : tinfo Try.prog 51 = some ⟨1,false,(some [.nilfn]),.fn,none⟩:=by kernel_rfl
theorem zo51 : zeroOf Try.prog 51 = (some [.nilfn]):=by kernel_rfl
instance : TyT Try.prog 51 ⟨1,false,(some [.nilfn]),.fn,none⟩:=⟨ty51⟩
instance : ZoT Try.prog 51 (some [.nilfn]):=⟨zo51⟩
theorem ty52 : tinfo Try.prog 52 = some ⟨1,false,(some [.nilfn]),.fn,none⟩:=by kernel_rfl
theorem zo52 : zeroOf Try.prog 52 = (some [.nilfn]):=by kernel_rfl
instance : TyT Try.prog 52 ⟨1,false,(some [.nilfn]),.fn,none⟩:=⟨ty52⟩
instance : ZoT Try.prog 52 (some [.nilfn]):=⟨zo52⟩
theorem ty53 : tinfo Try.prog 53 = some ⟨1,false,(some [.nilfn]),.fn,none⟩:=by kernel_rfl
theorem zo53 : zeroOf Try.prog 53 = (some [.nilfn]):=by kernel_rfl
instance : TyT Try.prog 53 ⟨1,false,(some [.nilfn]),.fn,none⟩:=⟨ty53⟩
instance : ZoT Try.prog 53 (some [.nilfn]):=⟨zo53⟩
theorem ty54 : tinfo Try.prog 54 = some ⟨1,false,(some [.nilfn]),.fn,none⟩:=by kernel_rfl
theorem zo54 : zeroOf Try.prog 54 = (some [.nilfn]):=by kernel_rfl
instance : TyT Try.prog 54 ⟨1,false,(some [.nilfn]),.fn,none⟩:=⟨ty54⟩
instance : ZoT Try.prog 54 (some [.nilfn]):=⟨zo54⟩
theorem ty55 : tinfo Try.prog 55 = some ⟨1,false,(some [.nilfn]),.fn,none⟩:=by kernel_rfl
theorem zo55 : zeroOf Try.prog 55 = (some [.nilfn]):=by kernel_rfl
instance : TyT Try.prog 55 ⟨1,false,(some [.nilfn]),.fn,none⟩:=⟨ty55⟩
instance : ZoT Try.prog 55 (some [.nilfn]):=⟨zo55⟩
theorem ty56 : tinfo Try.prog 56 = some ⟨3,true,(some [.str ⟨#[]⟩,.int .i64 0,.nilsl]),.struct [(0,9,1,false),(1,3,1,false),(2,33,1,false)],(some [(0,.string),(1,.int .i64),(2,.other)])⟩:=by kernel_rfl
theorem zo56 : zeroOf Try.prog 56 = (some [.str ⟨#[]⟩,.int .i64 0,.nilsl]):=by kernel_rfl
instance : TyT Try.prog 56 ⟨3,true,(some [.str ⟨#[]⟩,.int .i64 0,.nilsl]),.struct [(0,9,1,false),(1,3,1,false),(2,33,1,false)],(some [(0,.string),(1,.int .i64),(2,.other)])⟩:=⟨ty56⟩
instance : ZoT Try.prog 56 (some [.str ⟨#[]⟩,.int .i64 0,.nilsl]):=⟨zo56⟩
theorem ty57 : tinfo Try.prog 57 = some ⟨3,true,(some [.str ⟨#[]⟩,.int .i64 0,.nilsl]),.struct [(0,9,1,false),(1,3,1,false),(2,33,1,false)],(some [(0,.string),(1,.int .i64),(2,.other)])⟩:=by kernel_rfl
theorem zo57 : zeroOf Try.prog 57 = (some [.str ⟨#[]⟩,.int .i64 0,.nilsl]):=by kernel_rfl
instance : TyT Try.prog 57 ⟨3,true,(some [.str ⟨#[]⟩,.int .i64 0,.nilsl]),.struct [(0,9,1,false),(1,3,1,false),(2,33,1,false)],(some [(0,.string),(1,.int .i64),(2,.other)])⟩:=⟨ty57⟩
instance : ZoT Try.prog 57 (some [.str ⟨#[]⟩,.int .i64 0,.nilsl]):=⟨zo57⟩
theorem ty59 : tinfo Try.prog 59 = some ⟨1,false,(some [.nilsl]),.slice 4 1 1 false (some [.bool false]),none⟩:=by kernel_rfl
theorem zo59 : zeroOf Try.prog 59 = (some [.nilsl]):=by kernel_rfl
instance : TyT Try.prog 59 ⟨1,false,(some [.nilsl]),.slice 4 1 1 false (some [.bool false]),none⟩:=⟨ty59⟩
instance : ZoT Try.prog 59 (some [.nilsl]):=⟨zo59⟩
theorem ty61 : tinfo Try.prog 61 = some ⟨3,true,(some [.str ⟨#[]⟩,.int .i64 0,.nilsl]),.struct [(0,9,1,false),(1,3,1,false),(2,59,1,false)],(some [(0,.string),(1,.int .i64),(2,.other)])⟩:=by kernel_rfl
theorem zo61 : zeroOf Try.prog 61 = (some [.str ⟨#[]⟩,.int .i64 0,.nilsl]):=by kernel_rfl
instance : TyT Try.prog 61 ⟨3,true,(some [.str ⟨#[]⟩,.int .i64 0,.nilsl]),.struct [(0,9,1,false),(1,3,1,false),(2,59,1,false)],(some [(0,.string),(1,.int .i64),(2,.other)])⟩:=⟨ty61⟩
instance : ZoT Try.prog 61 (some [.str ⟨#[]⟩,.int .i64 0,.nilsl]):=⟨zo61⟩
theorem ty62 : tinfo Try.prog 62 = some ⟨1,false,(some [.nilfn]),.fn,none⟩:=by kernel_rfl
theorem zo62 : zeroOf Try.prog 62 = (some [.nilfn]):=by kernel_rfl
instance : TyT Try.prog 62 ⟨1,false,(some [.nilfn]),.fn,none⟩:=⟨ty62⟩
instance : ZoT Try.prog 62 (some [.nilfn]):=⟨zo62⟩
theorem ty63 : tinfo Try.prog 63 = some ⟨1,false,(some [.nilfn]),.fn,none⟩:=by kernel_rfl
theorem zo63 : zeroOf Try.prog 63 = (some [.nilfn]):=by kernel_rfl
instance : TyT Try.prog 63 ⟨1,false,(some [.nilfn]),.fn,none⟩:=⟨ty63⟩
instance : ZoT Try.prog 63 (some [.nilfn]):=⟨zo63⟩
theorem ty64 : tinfo Try.prog 64 = some ⟨1,false,(some [.nilfn]),.fn,none⟩:=by kernel_rfl
theorem zo64 : zeroOf Try.prog 64 = (some [.nilfn]):=by kernel_rfl
instance : TyT Try.prog 64 ⟨1,false,(some [.nilfn]),.fn,none⟩:=⟨ty64⟩
instance : ZoT Try.prog 64 (some [.nilfn]):=⟨zo64⟩
theorem ty65 : tinfo Try.prog 65 = some ⟨1,false,(some [.nilmap]),.map 9 31,none⟩:=by kernel_rfl
theorem zo65 : zeroOf Try.prog 65 = (some [.nilmap]):=by kernel_rfl
instance : TyT Try.prog 65 ⟨1,false,(some [.nilmap]),.map 9 31,none⟩:=⟨ty65⟩
instance : ZoT Try.prog 65 (some [.nilmap]):=⟨zo65⟩
theorem ty66 : tinfo Try.prog 66 = some ⟨1,false,(some [.nilfn]),.fn,none⟩:=by kernel_rfl
theorem zo66 : zeroOf Try.prog 66 = (some [.nilfn]):=by kernel_rfl
instance : TyT Try.prog 66 ⟨1,false,(some [.nilfn]),.fn,none⟩:=⟨ty66⟩
instance : ZoT Try.prog 66 (some [.nilfn]):=⟨zo66⟩
theorem ty67 : tinfo Try.prog 67 = some ⟨1,false,(some [.nilmap]),.map 9 3,none⟩:=by kernel_rfl
theorem zo67 : zeroOf Try.prog 67 = (some [.nilmap]):=by kernel_rfl
instance : TyT Try.prog 67 ⟨1,false,(some [.nilmap]),.map 9 3,none⟩:=⟨ty67⟩
instance : ZoT Try.prog 67 (some [.nilmap]):=⟨zo67⟩
theorem ty68 : tinfo Try.prog 68 = some ⟨1,false,(some [.nilptr]),.pointer,none⟩:=by kernel_rfl
theorem zo68 : zeroOf Try.prog 68 = (some [.nilptr]):=by kernel_rfl
instance : TyT Try.prog 68 ⟨1,false,(some [.nilptr]),.pointer,none⟩:=⟨ty68⟩
instance : ZoT Try.prog 68 (some [.nilptr]):=⟨zo68⟩
theorem ty69 : tinfo Try.prog 69 = some ⟨1,false,(some [.nilfn]),.fn,none⟩:=by kernel_rfl
theorem zo69 : zeroOf Try.prog 69 = (some [.nilfn]):=by kernel_rfl
instance : TyT Try.prog 69 ⟨1,false,(some [.nilfn]),.fn,none⟩:=⟨ty69⟩
instance : ZoT Try.prog 69 (some [.nilfn]):=⟨zo69⟩
theorem ty70 : tinfo Try.prog 70 = some ⟨1,false,(some [.nilfn]),.fn,none⟩:=by kernel_rfl
theorem zo70 : zeroOf Try.prog 70 = (some [.nilfn]):=by kernel_rfl
instance : TyT Try.prog 70 ⟨1,false,(some [.nilfn]),.fn,none⟩:=⟨ty70⟩
instance : ZoT Try.prog 70 (some [.nilfn]):=⟨zo70⟩
theorem ty71 : tinfo Try.prog 71 = some ⟨1,false,(some [.nilfn]),.fn,none⟩:=by kernel_rfl
theorem zo71 : zeroOf Try.prog 71 = (some [.nilfn]):=by kernel_rfl
instance : TyT Try.prog 71 ⟨1,false,(some [.nilfn]),.fn,none⟩:=⟨ty71⟩
instance : ZoT Try.prog 71 (some [.nilfn]):=⟨zo71⟩
theorem ty77 : tinfo Try.prog 77 = some ⟨1,false,(some [.nilptr]),.pointer,none⟩:=by kernel_rfl
theorem zo77 : zeroOf Try.prog 77 = (some [.nilptr]):=by kernel_rfl
instance : TyT Try.prog 77 ⟨1,false,(some [.nilptr]),.pointer,none⟩:=⟨ty77⟩
instance : ZoT Try.prog 77 (some [.nilptr]):=⟨zo77⟩
theorem ty78 : tinfo Try.prog 78 = some ⟨1,false,(some [.nilptr]),.pointer,none⟩:=by kernel_rfl
theorem zo78 : zeroOf Try.prog 78 = (some [.nilptr]):=by kernel_rfl
instance : TyT Try.prog 78 ⟨1,false,(some [.nilptr]),.pointer,none⟩:=⟨ty78⟩
instance : ZoT Try.prog 78 (some [.nilptr]):=⟨zo78⟩
theorem ty80 : tinfo Try.prog 80 = some ⟨2,true,(some [.int .i64 0,.nilmap]),.struct [(0,3,1,false),(1,67,1,false)],(some [(0,.int .i64),(1,.other)])⟩:=by kernel_rfl
theorem zo80 : zeroOf Try.prog 80 = (some [.int .i64 0,.nilmap]):=by kernel_rfl
instance : TyT Try.prog 80 ⟨2,true,(some [.int .i64 0,.nilmap]),.struct [(0,3,1,false),(1,67,1,false)],(some [(0,.int .i64),(1,.other)])⟩:=⟨ty80⟩
instance : ZoT Try.prog 80 (some [.int .i64 0,.nilmap]):=⟨zo80⟩
theorem ty90 : tinfo Try.prog 90 = some ⟨1,false,(some [.nilfn]),.fn,none⟩:=by kernel_rfl
theorem zo90 : zeroOf Try.prog 90 = (some [.nilfn]):=by kernel_rfl
instance : TyT Try.prog 90 ⟨1,false,(some [.nilfn]),.fn,none⟩:=⟨ty90⟩
instance : ZoT Try.prog 90 (some [.nilfn]):=⟨zo90⟩
theorem ty92 : tinfo Try.prog 92 = some ⟨1,false,(some [.nilmap]),.map 9 57,none⟩:=by kernel_rfl
theorem zo92 : zeroOf Try.prog 92 = (some [.nilmap]):=by kernel_rfl
instance : TyT Try.prog 92 ⟨1,false,(some [.nilmap]),.map 9 57,none⟩:=⟨ty92⟩
instance : ZoT Try.prog 92 (some [.nilmap]):=⟨zo92⟩
theorem ty93 : tinfo Try.prog 93 = some ⟨1,false,(some [.nilmap]),.map 9 61,none⟩:=by kernel_rfl
theorem zo93 : zeroOf Try.prog 93 = (some [.nilmap]):=by kernel_rfl
instance : TyT Try.prog 93 ⟨1,false,(some [.nilmap]),.map 9 61,none⟩:=⟨ty93⟩
instance : ZoT Try.prog 93 (some [.nilmap]):=⟨zo93⟩
theorem ty95 : tinfo Try.prog 95 = some ⟨3,true,(some [.int .i64 0,.nilmap,.nilmap]),.struct [(0,3,1,false),(1,92,1,false),(2,93,1,false)],(some [(0,.int .i64),(1,.other),(2,.other)])⟩:=by kernel_rfl
theorem zo95 : zeroOf Try.prog 95 = (some [.int .i64 0,.nilmap,.nilmap]):=by kernel_rfl
instance : TyT Try.prog 95 ⟨3,true,(some [.int .i64 0,.nilmap,.nilmap]),.struct [(0,3,1,false),(1,92,1,false),(2,93,1,false)],(some [(0,.int .i64),(1,.other),(2,.other)])⟩:=⟨ty95⟩
instance : ZoT Try.prog 95 (some [.int .i64 0,.nilmap,.nilmap]):=⟨zo95⟩
theorem ty96 : tinfo Try.prog 96 = some ⟨1,false,(some [.nilfn]),.fn,none⟩:=by kernel_rfl
theorem zo96 : zeroOf Try.prog 96 = (some [.nilfn]):=by kernel_rfl
instance : TyT Try.prog 96 ⟨1,false,(some [.nilfn]),.fn,none⟩:=⟨ty96⟩
instance : ZoT Try.prog 96 (some [.nilfn]):=⟨zo96⟩
theorem ty99 : tinfo Try.prog 99 = some ⟨1,false,(some [.nilfn]),.fn,none⟩:=by kernel_rfl
theorem zo99 : zeroOf Try.prog 99 = (some [.nilfn]):=by kernel_rfl
instance : TyT Try.prog 99 ⟨1,false,(some [.nilfn]),.fn,none⟩:=⟨ty99⟩
instance : ZoT Try.prog 99 (some [.nilfn]):=⟨zo99⟩
theorem ty102 : tinfo Try.prog 102 = some ⟨1,false,(some [.nilfn]),.fn,none⟩:=by kernel_rfl
theorem zo102 : zeroOf Try.prog 102 = (some [.nilfn]):=by kernel_rfl
instance : TyT Try.prog 102 ⟨1,false,(some [.nilfn]),.fn,none⟩:=⟨ty102⟩
instance : ZoT Try.prog 102 (some [.nilfn]):=⟨zo102⟩
theorem ty109 : tinfo Try.prog 109 = some ⟨2,true,(some [.int .i64 0,.int .i64 0]),.struct [(0,39,2,true)],(some [(0,.other)])⟩:=by kernel_rfl
theorem zo109 : zeroOf Try.prog 109 = (some [.int .i64 0,.int .i64 0]):=by kernel_rfl
instance : TyT Try.prog 109 ⟨2,true,(some [.int .i64 0,.int .i64 0]),.struct [(0,39,2,true)],(some [(0,.other)])⟩:=⟨ty109⟩
instance : ZoT Try.prog 109 (some [.int .i64 0,.int .i64 0]):=⟨zo109⟩
theorem ty112 : tinfo Try.prog 112 = some ⟨1,false,(some [.nilfn]),.fn,none⟩:=by kernel_rfl
theorem zo112 : zeroOf Try.prog 112 = (some [.nilfn]):=by kernel_rfl
instance : TyT Try.prog 112 ⟨1,false,(some [.nilfn]),.fn,none⟩:=⟨ty112⟩
instance : ZoT Try.prog 112 (some [.nilfn]):=⟨zo112⟩
theorem ty120 : tinfo Try.prog 120 = some ⟨2,true,(some [.str ⟨#[]⟩,.int .i64 0]),.struct [(0,9,1,false),(1,3,1,false)],(some [(0,.string),(1,.int .i64)])⟩:=by kernel_rfl
theorem zo120 : zeroOf Try.prog 120 = (some [.str ⟨#[]⟩,.int .i64 0]):=by kernel_rfl
instance : TyT Try.prog 120 ⟨2,true,(some [.str ⟨#[]⟩,.int .i64 0]),.struct [(0,9,1,false),(1,3,1,false)],(some [(0,.string),(1,.int .i64)])⟩:=⟨ty120⟩
instance : ZoT Try.prog 120 (some [.str ⟨#[]⟩,.int .i64 0]):=⟨zo120⟩
theorem ty121 : tinfo Try.prog 121 = some ⟨1,false,(some [.nilfn]),.fn,none⟩:=by kernel_rfl
theorem zo121 : zeroOf Try.prog 121 = (some [.nilfn]):=by kernel_rfl
instance : TyT Try.prog 121 ⟨1,false,(some [.nilfn]),.fn,none⟩:=⟨ty121⟩
instance : ZoT Try.prog 121 (some [.nilfn]):=⟨zo121⟩
theorem ty122 : tinfo Try.prog 122 = some ⟨1,false,(some [.nilfn]),.fn,none⟩:=by kernel_rfl
theorem zo122 : zeroOf Try.prog 122 = (some [.nilfn]):=by kernel_rfl
instance : TyT Try.prog 122 ⟨1,false,(some [.nilfn]),.fn,none⟩:=⟨ty122⟩
instance : ZoT Try.prog 122 (some [.nilfn]):=⟨zo122⟩
theorem zv3 : zvOf Try.prog 3 = some (.int .i64 0):=by kernel_rfl
instance : ZvT Try.prog 3 (.int .i64 0):=⟨zv3⟩
theorem zv31 : zvOf Try.prog 31 = some (.agg [.str ⟨#[]⟩,.nilsl]):=by kernel_rfl
instance : ZvT Try.prog 31 (.agg [.str ⟨#[]⟩,.nilsl]):=⟨zv31⟩
theorem zv57 : zvOf Try.prog 57 = some (.agg [.str ⟨#[]⟩,.int .i64 0,.nilsl]):=by kernel_rfl
instance : ZvT Try.prog 57 (.agg [.str ⟨#[]⟩,.int .i64 0,.nilsl]):=⟨zv57⟩
theorem zv61 : zvOf Try.prog 61 = some (.agg [.str ⟨#[]⟩,.int .i64 0,.nilsl]):=by kernel_rfl
instance : ZvT Try.prog 61 (.agg [.str ⟨#[]⟩,.int .i64 0,.nilsl]):=⟨zv61⟩
theorem mixed : Try.prog.follows .mixedOrders = true:=by kernel_rfl
instance : MixT Try.prog:=⟨mixed⟩
theorem en3 : Enters Try.prog 3:=Try.call3
instance : EnT Try.prog 3:=⟨en3⟩
theorem en4 : Enters Try.prog 4:=Try.call4
instance : EnT Try.prog 4:=⟨en4⟩
theorem en5 : Enters Try.prog 5:=Try.call5
instance : EnT Try.prog 5:=⟨en5⟩
theorem en6 : Enters Try.prog 6:=Try.call6
instance : EnT Try.prog 6:=⟨en6⟩
theorem en7 : Enters Try.prog 7:=Try.call7
instance : EnT Try.prog 7:=⟨en7⟩
theorem en8 : Enters Try.prog 8:=Try.call8
instance : EnT Try.prog 8:=⟨en8⟩
theorem en9 : Enters Try.prog 9:=Try.call9
instance : EnT Try.prog 9:=⟨en9⟩
theorem en10 : Enters Try.prog 10:=Try.call10
instance : EnT Try.prog 10:=⟨en10⟩
theorem en11 : Enters Try.prog 11:=Try.call11
instance : EnT Try.prog 11:=⟨en11⟩
theorem en12 : Enters Try.prog 12:=Try.call12
instance : EnT Try.prog 12:=⟨en12⟩
theorem en18 : Enters Try.prog 18:=Try.call18
instance : EnT Try.prog 18:=⟨en18⟩
theorem en19 : Enters Try.prog 19:=Try.call19
instance : EnT Try.prog 19:=⟨en19⟩
theorem en20 : Enters Try.prog 20:=Try.call20
instance : EnT Try.prog 20:=⟨en20⟩
theorem en21 : Enters Try.prog 21:=Try.call21
instance : EnT Try.prog 21:=⟨en21⟩
theorem en22 : Enters Try.prog 22:=Try.call22
instance : EnT Try.prog 22:=⟨en22⟩
theorem en23 : Enters Try.prog 23:=Try.call23
instance : EnT Try.prog 23:=⟨en23⟩
theorem en24 : Enters Try.prog 24:=Try.call24
instance : EnT Try.prog 24:=⟨en24⟩
theorem en25 : Enters Try.prog 25:=Try.call25
instance : EnT Try.prog 25:=⟨en25⟩
theorem en26 : Enters Try.prog 26:=Try.call26
instance : EnT Try.prog 26:=⟨en26⟩
theorem en27 : Enters Try.prog 27:=Try.call27
instance : EnT Try.prog 27:=⟨en27⟩
theorem en28 : Enters Try.prog 28:=Try.call28
instance : EnT Try.prog 28:=⟨en28⟩
theorem en29 : Enters Try.prog 29:=Try.call29
instance : EnT Try.prog 29:=⟨en29⟩
theorem en30 : Enters Try.prog 30:=Try.call30
instance : EnT Try.prog 30:=⟨en30⟩
theorem en31 : Enters Try.prog 31:=Try.call31
instance : EnT Try.prog 31:=⟨en31⟩
theorem en32 : Enters Try.prog 32:=Try.call32
instance : EnT Try.prog 32:=⟨en32⟩
theorem en33 : Enters Try.prog 33:=Try.call33
instance : EnT Try.prog 33:=⟨en33⟩
theorem en34 : Enters Try.prog 34:=Try.call34
instance : EnT Try.prog 34:=⟨en34⟩
theorem en35 : Enters Try.prog 35:=Try.call35
instance : EnT Try.prog 35:=⟨en35⟩
theorem en39 : Enters Try.prog 39:=Try.call39
instance : EnT Try.prog 39:=⟨en39⟩
theorem en40 : Enters Try.prog 40:=Try.call40
instance : EnT Try.prog 40:=⟨en40⟩
theorem en41 : Enters Try.prog 41:=Try.call41
instance : EnT Try.prog 41:=⟨en41⟩
theorem en42 : Enters Try.prog 42:=Try.call42
instance : EnT Try.prog 42:=⟨en42⟩
theorem en43 : Enters Try.prog 43:=Try.call43
instance : EnT Try.prog 43:=⟨en43⟩
theorem en44 : Enters Try.prog 44:=Try.call44
instance : EnT Try.prog 44:=⟨en44⟩
theorem en45 : Enters Try.prog 45:=Try.call45
instance : EnT Try.prog 45:=⟨en45⟩
theorem en46 : Enters Try.prog 46:=Try.call46
instance : EnT Try.prog 46:=⟨en46⟩
theorem en47 : Enters Try.prog 47:=Try.call47
instance : EnT Try.prog 47:=⟨en47⟩
theorem en48 : Enters Try.prog 48:=Try.call48
instance : EnT Try.prog 48:=⟨en48⟩
theorem en49 : Enters Try.prog 49:=Try.call49
instance : EnT Try.prog 49:=⟨en49⟩
theorem en50 : Enters Try.prog 50:=Try.call50
instance : EnT Try.prog 50:=⟨en50⟩
theorem en51 : Enters Try.prog 51:=Try.call51
instance : EnT Try.prog 51:=⟨en51⟩
theorem en52 : Enters Try.prog 52:=Try.call52
instance : EnT Try.prog 52:=⟨en52⟩
theorem en53 : Enters Try.prog 53:=Try.call53
instance : EnT Try.prog 53:=⟨en53⟩
theorem en54 : Enters Try.prog 54:=Try.call54
instance : EnT Try.prog 54:=⟨en54⟩
theorem en55 : Enters Try.prog 55:=Try.call55
instance : EnT Try.prog 55:=⟨en55⟩
theorem en56 : Enters Try.prog 56:=Try.call56
instance : EnT Try.prog 56:=⟨en56⟩
theorem en57 : Enters Try.prog 57:=Try.call57
instance : EnT Try.prog 57:=⟨en57⟩
theorem en59 : Enters Try.prog 59:=Try.call59
instance : EnT Try.prog 59:=⟨en59⟩
theorem en61 : Enters Try.prog 61:=Try.call61
instance : EnT Try.prog 61:=⟨en61⟩
theorem en62 : Enters Try.prog 62:=Try.call62
instance : EnT Try.prog 62:=⟨en62⟩
theorem en63 : Enters Try.prog 63:=Try.call63
instance : EnT Try.prog 63:=⟨en63⟩
theorem en64 : Enters Try.prog 64:=Try.call64
instance : EnT Try.prog 64:=⟨en64⟩
theorem en65 : Enters Try.prog 65:=Try.call65
instance : EnT Try.prog 65:=⟨en65⟩
theorem en66 : Enters Try.prog 66:=Try.call66
instance : EnT Try.prog 66:=⟨en66⟩
theorem en67 : Enters Try.prog 67:=Try.call67
instance : EnT Try.prog 67:=⟨en67⟩
theorem en68 : Enters Try.prog 68:=Try.call68
instance : EnT Try.prog 68:=⟨en68⟩
theorem en69 : Enters Try.prog 69:=Try.call69
instance : EnT Try.prog 69:=⟨en69⟩
theorem en70 : Enters Try.prog 70:=Try.call70
instance : EnT Try.prog 70:=⟨en70⟩
theorem en71 : Enters Try.prog 71:=Try.call71
instance : EnT Try.prog 71:=⟨en71⟩
theorem en72 : Enters Try.prog 72:=Try.call72
instance : EnT Try.prog 72:=⟨en72⟩
theorem en78 : Enters Try.prog 78:=Try.call78
instance : EnT Try.prog 78:=⟨en78⟩
theorem en109 : Enters Try.prog 109:=Try.call109
instance : EnT Try.prog 109:=⟨en109⟩
end Go.Proofs.Ytbimioonhfhflaa
