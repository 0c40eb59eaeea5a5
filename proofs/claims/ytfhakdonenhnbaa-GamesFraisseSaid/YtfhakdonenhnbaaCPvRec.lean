import Derived.Test.YtfhakdonenhnbaaCPvQg
import Derived.Recover
set_option linter.unusedVariables false
set_option linter.unusedSimpArgs false
namespace Go.Pv
open Go
inductive Wd where
 | mk (nm : ByteArray) (args : List Wd)
 deriving Inhabited
def Wd.nm : Wd → ByteArray | .mk a _=>a
def Wd.args : Wd → List Wd | .mk _ a=>a
@[simp] theorem wd_mk {a : ByteArray} {l : List Wd} : (Wd.mk a l).nm = a ∧ (Wd.mk a l).args = l:=⟨rfl,rfl⟩
theorem Wd.ind {P : Wd → Prop} (h : ∀ p,(∀ q ∈ p.args,P q) → P p) (p : Wd) : P p:=by
 refine Wd.rec (motive_1:=P) (motive_2:=fun l=>∀ q ∈ l,P q) (fun a l hl=>h _ hl) (fun q hq=>by cases hq) (fun a r ha hr q hq=>?_) p
 cases hq with
 | head=>exact ha
 | tail _ hq=>exact hr q hq
mutual
def wrd : Wd → List PV
 | .mk a l=>[.str a,.list (wrds l)]
def wrds : List Wd → List (List PV)
 | []=>[]
 | p :: r=>wrd p :: wrds r
end
theorem wrds_eq (l : List Wd) : wrds l = l.map wrd:=by
 induction l with
 | nil=>rfl
 | cons f r ih=>rw [wrds,ih];rfl
theorem wrd_eq (p : Wd) : wrd p = [.str p.nm,.list (p.args.map wrd)]:=by
 cases p with | mk a l=>rw [wrd,wrds_eq];rfl
section
variable {p : Wd}
theorem wrd_flat (p : Wd) : (wrd p).all flatV = true:=by rw [wrd_eq];rfl
@[simp] theorem wrd_length : (wrd p).length = 2:=by rw [wrd_eq];rfl
@[simp] theorem wrd_cell : (wrd p).all isCell = true:=by rw [wrd_eq];rfl
@[simp] theorem wrd_isCell : (∀ x ∈ wrd p,isCell x = true) = True:=by rw [wrd_eq];simp
@[simp] theorem wrd_take2 : (wrd p).take 2 = wrd p:=List.take_of_length_le (by simp)
@[simp] theorem wrd_get0 : (wrd p)[0]? = some (.str p.nm):=by rw [wrd_eq];rfl
@[simp] theorem wrd_ge0 (h : 0 < (wrd p).length) : (wrd p)[0] = .str p.nm:=Option.some.inj ((List.getElem?_eq_getElem h).symm.trans wrd_get0)
@[simp] theorem wrd_get1 : (wrd p)[1]? = some (.list (p.args.map wrd)):=by rw [wrd_eq];rfl
@[simp] theorem wrd_ge1 (h : 1 < (wrd p).length) : (wrd p)[1] = .list (p.args.map wrd):=Option.some.inj ((List.getElem?_eq_getElem h).symm.trans wrd_get1)
@[simp] theorem wrd_drop1 : (wrd p).drop 1 = [.list (p.args.map wrd)]:=by rw [wrd_eq];rfl
@[simp] theorem wrd_drop2 : (wrd p).drop 2 = []:=by rw [wrd_eq];rfl
@[simp] theorem wrd_tail : (wrd p).tail = [.list (p.args.map wrd)]:=by rw [wrd_eq];rfl
@[simp] theorem wrd_renm {ρ : List Nat} {n : Nat} : (wrd p).map (renN ρ n) = wrd p:=map_id_of (fun v=>flat_ren) (wrd_flat p)
@[simp] theorem wrd_derefm {s : Store} {n : Nat} : (wrd p).map (deref s n) = wrd p:=map_id_of (fun v=>flat_deref) (wrd_flat p)
@[simp] theorem wrd_frz {F : List Nat} {s : Store} : (wrd p).map (frzV F s) = wrd p:=map_id_of (fun v=>frzV_flat) (wrd_flat p)
@[simp] theorem wrd_up {ρ : List Nat} {n : Nat} : (wrd p).map (upN ρ n) = wrd p:=map_id_of (fun v=>flat_up) (wrd_flat p)
@[simp] theorem wrd_refs {n : Nat} : (wrd p).flatMap (refsN n) = []:=by rw [wrd_eq];simp
@[simp] theorem wrd_soft : (wrd p).map soft1 = wrd p:=by rw [wrd_eq];rfl
instance : FlatRow wrd:=⟨wrd_flat⟩
@[simp] theorem cl_wrd : Closed (.agg (wrd p)):=closed_agg (by rw [wrd_eq];simp)
end
inductive Ex where
 | mk (k : Int) (nm : ByteArray) (words : List Wd) (kids : List Ex)
 deriving Inhabited
def Ex.k : Ex → Int | .mk a _ _ _=>a
def Ex.nm : Ex → ByteArray | .mk _ a _ _=>a
def Ex.words : Ex → List Wd | .mk _ _ a _=>a
def Ex.kids : Ex → List Ex | .mk _ _ _ a=>a
@[simp] theorem ex_mk {k : Int} {a : ByteArray} {w : List Wd} {l : List Ex} : (Ex.mk k a w l).k = k ∧ (Ex.mk k a w l).nm = a ∧ (Ex.mk k a w l).words = w ∧ (Ex.mk k a w l).kids = l:=⟨rfl,rfl,rfl,rfl⟩
theorem Ex.ind {P : Ex → Prop} (h : ∀ p,(∀ q ∈ p.kids,P q) → P p) (p : Ex) : P p:=by
 refine Ex.rec (motive_1:=P) (motive_2:=fun l=>∀ q ∈ l,P q) (fun a b c l hl=>h _ hl) (fun q hq=>by cases hq) (fun a r ha hr q hq=>?_) p
 cases hq with
 | head=>exact ha
 | tail _ hq=>exact hr q hq
mutual
def exr : Ex → List PV
 | .mk k a w l=>[.int .i64 k,.str a,.list (w.map wrd),.list (exrs l)]
def exrs : List Ex → List (List PV)
 | []=>[]
 | p :: r=>exr p :: exrs r
end
theorem exrs_eq (l : List Ex) : exrs l = l.map exr:=by
 induction l with
 | nil=>rfl
 | cons f r ih=>rw [exrs,ih];rfl
theorem exr_eq (p : Ex) : exr p = [.int .i64 p.k,.str p.nm,.list (p.words.map wrd),.list (p.kids.map exr)]:=by
 cases p with | mk k a w l=>rw [exr,exrs_eq];rfl
section
variable {p : Ex}
theorem exr_flat (p : Ex) : (exr p).all flatV = true:=by rw [exr_eq];rfl
@[simp] theorem exr_length : (exr p).length = 4:=by rw [exr_eq];rfl
@[simp] theorem exr_cell : (exr p).all isCell = true:=by rw [exr_eq];rfl
@[simp] theorem exr_isCell : (∀ x ∈ exr p,isCell x = true) = True:=by rw [exr_eq];simp
@[simp] theorem exr_take4 : (exr p).take 4 = exr p:=List.take_of_length_le (by simp)
@[simp] theorem exr_get0 : (exr p)[0]? = some (.int .i64 p.k):=by rw [exr_eq];rfl
@[simp] theorem exr_ge0 (h : 0 < (exr p).length) : (exr p)[0] = .int .i64 p.k:=Option.some.inj ((List.getElem?_eq_getElem h).symm.trans exr_get0)
@[simp] theorem exr_get1 : (exr p)[1]? = some (.str p.nm):=by rw [exr_eq];rfl
@[simp] theorem exr_ge1 (h : 1 < (exr p).length) : (exr p)[1] = .str p.nm:=Option.some.inj ((List.getElem?_eq_getElem h).symm.trans exr_get1)
@[simp] theorem exr_get2 : (exr p)[2]? = some (.list (p.words.map wrd)):=by rw [exr_eq];rfl
@[simp] theorem exr_ge2 (h : 2 < (exr p).length) : (exr p)[2] = .list (p.words.map wrd):=Option.some.inj ((List.getElem?_eq_getElem h).symm.trans exr_get2)
@[simp] theorem exr_get3 : (exr p)[3]? = some (.list (p.kids.map exr)):=by rw [exr_eq];rfl
@[simp] theorem exr_ge3 (h : 3 < (exr p).length) : (exr p)[3] = .list (p.kids.map exr):=Option.some.inj ((List.getElem?_eq_getElem h).symm.trans exr_get3)
@[simp] theorem exr_drop1 : (exr p).drop 1 = [.str p.nm,.list (p.words.map wrd),.list (p.kids.map exr)]:=by rw [exr_eq];rfl
@[simp] theorem exr_drop2 : (exr p).drop 2 = [.list (p.words.map wrd),.list (p.kids.map exr)]:=by rw [exr_eq];rfl
@[simp] theorem exr_drop3 : (exr p).drop 3 = [.list (p.kids.map exr)]:=by rw [exr_eq];rfl
@[simp] theorem exr_drop4 : (exr p).drop 4 = []:=by rw [exr_eq];rfl
@[simp] theorem exr_tail : (exr p).tail = [.str p.nm,.list (p.words.map wrd),.list (p.kids.map exr)]:=by rw [exr_eq];rfl
@[simp] theorem exr_renm {ρ : List Nat} {n : Nat} : (exr p).map (renN ρ n) = exr p:=map_id_of (fun v=>flat_ren) (exr_flat p)
@[simp] theorem exr_derefm {s : Store} {n : Nat} : (exr p).map (deref s n) = exr p:=map_id_of (fun v=>flat_deref) (exr_flat p)
@[simp] theorem exr_frz {F : List Nat} {s : Store} : (exr p).map (frzV F s) = exr p:=map_id_of (fun v=>frzV_flat) (exr_flat p)
@[simp] theorem exr_up {ρ : List Nat} {n : Nat} : (exr p).map (upN ρ n) = exr p:=map_id_of (fun v=>flat_up) (exr_flat p)
@[simp] theorem exr_refs {n : Nat} : (exr p).flatMap (refsN n) = []:=by rw [exr_eq];simp
@[simp] theorem exr_soft : (exr p).map soft1 = exr p:=by rw [exr_eq];rfl
instance : FlatRow exr:=⟨exr_flat⟩
@[simp] theorem cl_exr : Closed (.agg (exr p)):=closed_agg (by rw [exr_eq];simp)
end
end Go.Pv
namespace Go.Pv
open Go
section
variable {C : WC} {e : AE} {s S : Store} {q : AE → Store → Prop} {t c z k zk b : Nat} {L ids lens ρ0 : List Nat} {xss : List (List (List PV))}
end
attribute [simp] List.set_append_left List.set_append_right
end Go.Pv
namespace Go.Pv
open Go
def stG {α : Type} (S : Nat → List α) (n x : Nat) (cur : List α) : List (List α):=(List.range n).map fun u=>if u < x then S u else if u = x then cur else []
section
variable {α : Type} {S : Nat → List α} {n x : Nat} {cur cur' : List α}
@[simp] theorem stG_length : (stG S n x cur).length = n:=by simp [stG]
end
section
variable {C : WC} {e : AE} {s S : Store} {q : AE → Store → Prop} {t t' z z' k k' zk zk' b : Nat} {L ids ids' lens lens' ρ0 : List Nat} {xss yss : List (List (List PV))}
end
end Go.Pv
namespace Go.Pv
open Go
theorem RetView.frz {m : Nat} (F : List Nat) (v : PV) (s : Store) : RetView m v s (frzV F s v) (s.mapIdx (frzO F s)):=by
 intro C pub σ w cv hC hs hr
 have her : ER pub σ ⟨1,[],[]⟩ (envOf [(0,v)]) { tmps:=#[cv],defers:=[] }:=by
  refine ⟨rfl,rfl,fun _ _ h=>(by cases h),fun t=>?_⟩
  by_cases ht : t = 0
  ·subst ht;simpa [envOf] using hr
  ·have : envOf [(0,v)] t = .any := by simp [envOf,ht]
   rw [this];exact .any
 obtain ⟨p,q,h1,h2⟩:=withFrz_view (m:=m) F [(0,v)] C pub σ _ w ⟨1,[],[]⟩ hC hs her
 exact ⟨p,q,h1,by simpa [withFrz,envOf,frzV] using h2.rel 0⟩
def OZ (F : List Nat) (m : Nat) (v : PV) (s' : Store) (v1 : PV) (s1 : Store) : Prop:=gcFin m v s' (frzV F s1 v1) (s1.mapIdx (frzO F s1))
def ozFin (m : Nat) (v : PV) (s' : Store) (v1 : PV) (s1 : Store) : Prop:=OZ (grow s1 64 ((refsN 4 v1).filter fun r=>!r.2) []) m v s' v1 s1
@[simp] theorem ozFin_eq {m : Nat} {v v1 : PV} {s1 s' : Store} : ozFin m v s' v1 s1 = OZ (grow s1 64 ((refsN 4 v1).filter fun r=>!r.2) []) m v s' v1 s1:=rfl
theorem frzV_nil {s : Store} {v : PV} : frzV [] s v = v:=by unfold frzV;simp
theorem frzO_nil {s : Store} {i : Nat} {o : PObj} : frzO [] s i o = o:=by
 unfold frzO
 have h : frzV [] s = id:=by funext v;exact frzV_nil
 have h2 : List.map (frzV [] s) = id:=by rw [h];funext l;simp
 rw [if_neg (by simp)]
 cases o <;> simp [h,h2]
@[simp] theorem OZ_nil {m : Nat} {v v1 : PV} {s1 s' : Store} : OZ [] m v s' v1 s1 = gcFin m v s' v1 s1:=by
 unfold OZ
 have : s1.mapIdx (frzO [] s1) = s1:=by
  apply List.ext_getElem?
  intro i
  rw [List.getElem?_mapIdx]
  cases s1[i]? <;> simp [frzO_nil]
 rw [frzV_nil,this]
@[simp] theorem OZ_cons {i : Nat} {F : List Nat} {m : Nat} {v v1 : PV} {s1 s' : Store} : OZ (i :: F) m v s' v1 s1 = gcFin m v s' (frzV (i :: F) s1 v1) (s1.mapIdx (frzO (i :: F) s1)):=rfl
theorem ozFin_ret {m : Nat} {v v1 : PV} {s1 s' : Store} (h : ozFin m v s' v1 s1) : RetView m v1 s1 v s':=RetView.trans (RetView.frz _ _ _) (gcFin_ret h)
section
variable {C : WC} {d : Option Tmp} {fid : FuncId} {vs : List PV} {e : AE} {s s2 : Store} {K : KS} {v : PV} {t : RT}
theorem CT.of [EnT C.P fid] (hc : CallOK C.P fid vs s v s2) (hk : TR C t (updA e d v) s2 K) : CT C d (some (fid,vs)) t e s K:=⟨fid,vs,rfl,EnT.h,.inl ⟨v,s2,hc,hk⟩⟩
theorem CT.sub [EnT C.P fid] (ρ : List Nat) (hc : CallOK C.P fid (vs.map (renN ρ 4)) (liveS ρ s ρ) v s2) (hk : TR C t (updA e d (upN (ρ ++ List.range' s.length (s2.length - ρ.length)) 4 v)) (backS ρ s s2) K)
  (hnd : ρ.Nodup:=by simp) (hin : ∀ i ∈ ρ,i < s.length:=by simp) (hlen : ρ.length ≤ s2.length:=by simp) : CT C d (some (fid,vs)) t e s K:=by
 refine ⟨fid,vs,rfl,EnT.h,.inl ⟨_,_,CallOK.sub ρ hnd hin hlen ?_,hk⟩⟩
 have : ∀ L : List Nat,liveS ρ s L = L.map fun i=>renObj ρ ((s[i]?).getD .dead):=by
  intro L;induction L with
  | nil=>rfl
  | cons i r ih=>rw [liveS,ih];rfl
 rwa [← this]
end
def killO (D : List Nat) (i : Nat) (o : PObj) : PObj:=if i ∈ D then .dead else o
theorem RetView.kill {m : Nat} (D : List Nat) (v : PV) (s : Store) : RetView m v s v (s.mapIdx (killO D)):=by
 intro C pub σ w cv hC hs hr
 refine ⟨pub,σ,hs.sub (by simp) fun k o h hd=>?_,hr⟩
 rw [List.getElem?_mapIdx] at h
 cases hk : s[k]? with
 | none=>rw [hk] at h;cases h
 | some o1=>
  rw [hk] at h
  simp only [Option.map_some,Option.some.injEq] at h
  unfold killO at h
  split at h
  ·exact absurd h.symm hd
  ·rw [h]
def odFin (D : List Nat) (m : Nat) (v : PV) (s' : Store) (v1 : PV) (s1 : Store) : Prop:=ozFin m v s' v1 (s1.mapIdx (killO D))
@[simp] theorem odFin_eq {D : List Nat} {m : Nat} {v v1 : PV} {s1 s' : Store} : odFin D m v s' v1 s1 = ozFin m v s' v1 (s1.mapIdx (killO D)):=rfl
@[simp] theorem killO_eq {D : List Nat} {i : Nat} {o : PObj} : killO D i o = if i ∈ D then .dead else o:=rfl
theorem FI.od {P : Program} {F : FuncId} {C : Program → Nat → WC} {x : XC} {rs : List ResultVar} {fn : Func} (i : FI P F C x rs fn) (D : List Nat) {args : List PV} {v : PV} {s s' : Store} (h : X (C P s.length) x (argsA 0 args) s (.fin rs (odFin D s.length v s'))) (hl : Nat.ble args.length fn.ntmps = true:=by exact rfl) : CallOK P F args s v s':=
 FI.ops i _ (fun v1 s1 h=>RetView.trans (RetView.kill D _ _) (ozFin_ret h)) h hl
end Go.Pv
namespace Go.Pv
open Go
section
variable {D : List Nat} {m : Nat} {u v : Value} {s s' : Store}
end
theorem er_args {pub : PHeap} {σ : Sig} {args : List PV} {cargs : Array Value} {n k : Nat} (hargs : RelA pub σ args cargs) (hn : args.length ≤ n) (hk : k = n - cargs.size) : ER pub σ ⟨n,[],[]⟩ (envOf (argsA 0 args)) { tmps:=cargs ++ Array.replicate k undef,defers:=[] }:=by
 subst hk
 refine ⟨by simp [hargs.1];omega,rfl,fun _ _ h=>(by cases h),fun t=>?_⟩
 rw [argsA_get,if_pos (Nat.zero_le _),Nat.sub_zero]
 by_cases ht : t < args.length
 ·have h1 : args[t]? = some args[t] := List.getElem?_eq_getElem ht
  have h2 : cargs[t]? = some (cargs[t]'(by rw [hargs.1];exact ht)):=Array.getElem?_eq_getElem _
  have h3 : (cargs ++ Array.replicate (n - cargs.size) undef).getD t undef = cargs[t]'(by rw [hargs.1];exact ht):=by
   rw [Array.getD_eq_getD_getElem?,Array.getElem?_append_left (by rw [hargs.1];exact ht),h2];rfl
  rw [h3]
  simp only [h1,Option.getD_some]
  exact hargs.2 t _ _ h1 h2
 ·rw [List.getElem?_eq_none (show args.length ≤ t by omega),Option.getD_none]
  exact .any
def StV (m : Nat) (s s' : Store) : Prop:=∀ C pub σ w,(∀ i,m ≤ i → C.sig i = none) → SR C pub σ s w → ∃ pub' σ',SR C pub' σ' s' w
theorem StV.of {m : Nat} {s s' : Store} {D : List Nat} (h : gcFin m (.tuple []) s' (.tuple []) (s.mapIdx (killO D))) : StV m s s':=by
 intro C pub σ w hC hs
 have hr : Rel pub σ (.tuple []) (.tuple #[]):=.tuple rfl fun j v c h=>by simp at h
 obtain ⟨p,q,h1,_⟩:=(RetView.trans (RetView.kill D _ _) (gcFin_ret h)) C pub σ w _ hC hs hr
 exact ⟨p,q,h1⟩
section
variable {P : Program} {F : FuncId} {C : Program → Nat → WC} {x : XC} {rs : List ResultVar} {fn : Func}
end
theorem CallPan.sub {P : Program} {f : FuncId} {args : List PV} {v : Value} {t s0' : Store} (ρ : List Nat) (hnd : ρ.Nodup) (hin : ∀ i ∈ ρ,i < t.length) (hlen' : ρ.length ≤ s0'.length)
  (h : CallPan P f (args.map (renN ρ 4)) (ρ.map fun i=>renObj ρ ((t[i]?).getD .dead)) v s0') : CallPan P f args t v (backS ρ t s0'):=by
 intro pub σ w cargs hbase hargs
 obtain ⟨hb0,hal⟩:=ren_base (s0:=ρ.map fun i=>renObj ρ ((t[i]?).getD .dead)) hbase hnd (by simp) (by
  intro j o' hj
  rw [List.getElem?_map,Option.map_eq_some_iff] at hj
  obtain ⟨i,hi,rfl⟩:=hj
  have hil:=hin i (List.mem_of_getElem? hi)
  refine ⟨i,t[i],hi,List.getElem?_eq_getElem hil,?_⟩
  rw [List.getElem?_eq_getElem hil];exact renObj_ren ρ _)
 have hargs0 : RelA pub (σ.ren ρ) (args.map (renN ρ 4)) cargs:=⟨by simpa using hargs.1,fun j x y hx hy=>by
  rw [List.getElem?_map,Option.map_eq_some_iff] at hx
  obtain ⟨u,hu,rfl⟩:=hx
  exact (renN_ren ρ 4 u).rel (hargs.2 j u y hu hy)⟩
 refine Calls.mono (h pub (σ.ren ρ) w cargs hb0 hargs0) ?_
 rintro en w' ⟨pub',σ0',rfl,hs'⟩
 obtain ⟨hs2,hσ⟩:=SR.back hbase hnd hin (by simp) hlen' hal hs' hs'.ple hs'.pubIn (fun b hb hn=>(hs'.frame b hb hn).2) hs'.obj
 exact ⟨pub',_,rfl,hs2⟩
end Go.Pv
namespace Go.Pv
open Go
def recMode : Option Value → FrameMode
 | none=>.returning
 | some v=>.panicking [{ v:=v,recovered:=false }]
def CallRec (P : Program) (g : FuncId) (r : Option Value) (args : List PV) (s s' : Store) : Prop:=
 ∀ (pub : PHeap) (σ : Sig) (w : World) (cargs : Array Value),Base pub σ s w → RelA pub σ args cargs →
  CallsD P g cargs (recMode r) w fun e u' w'=>(∃ cv,e = .returned cv) ∧ settle u' = .returning ∧ ∃ pub' σ',SR ⟨w,pub,σ,dom s σ⟩ pub' σ' s' w'
theorem rel_conc {pub : PHeap} : ∀ (n : Nat) (v : PV) (c : Value),concP n v = some c → ∀ σ,Rel pub σ v c
 | 0,v,c,h,σ=>by
  cases v <;> simp only [concP,reduceCtorEq,Option.some.injEq] at h <;> (subst h;first | exact .int | exact .bool)
 | n + 1,v,c,h,σ=>by
  cases v <;> simp only [concP,reduceCtorEq,Option.some.injEq] at h <;> first | (subst h;first | exact .int | exact .bool) | skip
  ·rename_i vs
   obtain ⟨l,h1,rfl⟩:=Option.map_eq_some_iff.1 h
   have key : ∀ (vs : List PV) (l : List Value),vs.mapM (concP n) = some l → l.length = vs.length ∧ ∀ (j : Nat) (v : PV) (c : Value),vs[j]? = some v → l[j]? = some c → concP n v = some c:=by
    intro vs
    induction vs with
    | nil=>intro l h;cases h;exact ⟨rfl,fun j v c h=>by simp at h⟩
    | cons a r ih=>
     intro l h
     rw [List.mapM_cons] at h
     obtain ⟨x,hx,h⟩:=Option.bind_eq_some_iff.1 h
     obtain ⟨t,ht,h⟩:=Option.bind_eq_some_iff.1 h
     cases h
     obtain ⟨g1,g2⟩:=ih t ht
     refine ⟨by simp [g1],fun j v c hv hc=>?_⟩
     cases j with
     | zero=>simp at hv hc;subst hv hc;exact hx
     | succ j=>exact g2 j v c (by simpa using hv) (by simpa using hc)
   obtain ⟨g1,g2⟩:=key vs l h1
   exact .agg (by simpa using g1) fun j v c hv hc=>rel_conc n v c (g2 j v c hv (by simpa using hc)) σ
  ·rename_i t v
   obtain ⟨x,h1,rfl⟩:=Option.map_eq_some_iff.1 h
   exact .iface (rel_conc n v x h1 σ)
theorem rel_pan {pub : PHeap} {σ : Sig} {v : PV} {c : Value} (h : panP v = some c) : Rel pub σ v c:=by
 unfold panP at h
 split at h
 ·exact rel_conc _ _ _ h σ
 ·cases h
section
variable {P : Program} {m : Nat}
theorem res_run {C : Ctx} {N : FrN} {pub : PHeap} {σ : Sig} {a : Act} {w : World} {e : AE} {s s' : Store} {v : PV} {fn : Func} {fin : PV → Store → Prop} (hC : ∀ i,m ≤ i → C.sig i = none) (hs : SR C pub σ s w) (he : ER pub σ N (envOf e) a) (hfin : ∀ v1 s1,fin v1 s1 → RetView m v1 s1 v s')
  (h : Sat (xres P (envOf e) s fn.results.toList) fun vs=>fin (retV vs) s) : ∃ cv,(results fn a.tmps).run P w = .ok cv w ∧ ∃ pub' σ',SR C pub' σ' s' w ∧ Rel pub' σ' v cv:=by
 obtain ⟨vs0,hv0,hret⟩:=sat_elim h
 replace hret:=hfin _ _ hret
 obtain ⟨vs,cs,hk,hrel,hrun⟩:=wres_run hs he _ _ (wres_of _ vs0 (fun vs=>RetView m (retV vs) s v s') hv0 hret)
 have hR : (results fn a.tmps).run P w = .ok (if h : cs.toArray.size = 1 then cs.toArray[0] else .tuple cs.toArray) w:=by
  rw [results_eq,Sem.run_bind,Array.mapM_eq_mapM_toList,Sem.run_map,hrun]
  rfl
 have hrv : Rel pub σ (retV vs) (if h : cs.toArray.size = 1 then cs.toArray[0] else .tuple cs.toArray):=by
  have hsz:=hrel.1
  match vs,cs,hrel,hsz with
  | [v],[c],hrel,_=>exact hrel.2 0 v c rfl rfl
  | [],[],hrel,_=>exact .tuple hrel.1 hrel.2
  | v1 :: v2 :: vs,c1 :: c2 :: cs,hrel,_=>simpa [retV] using Rel.tuple hrel.1 hrel.2
 obtain ⟨p,t,h1,h2⟩:=hk _ pub σ w _ hC hs hrv
 exact ⟨_,hR,p,t,h1,h2⟩
end
def recShape : Code → Option (Tmp × Code)
 | .seq (.region _ ops false) z=>match ops.toList with
  | [o]=>match o.op,o.dst,o.guard with
   | .call ⟨.builtin .recover,_,_⟩,some t,none=>some (t,z)
   | _,_,_=>none
  | _=>none
 | _=>none
structure FR (P : Program) (F : FuncId) (C : Program → Nat → WC) (t : Nat) (x : XC) (rs : List ResultVar) (fn : Func) : Prop where
 A : ∃ A,(∀ P m,C P m = ⟨P,m,A⟩) ∧ ((fn.body.bind recShape).map fun p=>chkC fn.ntmps A p.2 && decide (t < fn.ntmps)) = some true
 f : P.funcs[F]? = some fn
 x : ((fn.body.bind recShape).map fun p=>(p.1,lt p.2)) = some (t,x)
 r : fn.results.toList = rs
 m : P.follows .mixedOrders = true
def recV : Option Value → PV → Prop
 | none,rv=>rv = .niliface
 | some v,rv=>panP rv = some v
theorem FR.og {P : Program} {F : FuncId} {C : Program → Nat → WC} {t : Nat} {x : XC} {rs : List ResultVar} {fn : Func} (i : FR P F C t x rs fn) {args : List PV} {r : Option Value} {rv v : PV} {s s' : Store} (hr : recV r rv)
  (h : X (C P s.length) x (updA (argsA 0 args) (some t) rv) s (.fin rs (gcFin s.length v s'))) (hl : Nat.ble args.length fn.ntmps = true:=by exact rfl) : CallRec P F r args s s':=by
 obtain ⟨⟨A,hA,hc⟩,hf,hx,hrs,hm⟩:=i
 obtain ⟨⟨t',z⟩,hb,hxz⟩:=Option.map_eq_some_iff.1 hx
 simp only [Prod.mk.injEq] at hxz
 obtain ⟨rfl,hxz⟩:=hxz
 rw [hb,Option.map_some,Option.some.injEq,Bool.and_eq_true,decide_eq_true_eq] at hc
 obtain ⟨hc,htn⟩:=hc
 obtain ⟨c,hbody,hsh⟩:=Option.bind_eq_some_iff.1 hb
 unfold recShape at hsh
 split at hsh
 ·rename_i id ops z'
  split at hsh
  ·rename_i o hops
   split at hsh
   ·rename_i cargs0 cT t0 ho hd hg
    cases hsh
    unfold X at h
    rw [hA] at h
    intro pub σ w cargs hbase hargs
    refine callsD_of_wpS hf hbody fun c₀ cs hmode=>?_
    have hER:=er_args (k:=fn.ntmps - cargs.size) hargs (Nat.le_of_ble_eq_true hl) rfl
    refine wpS_seq (wpS_region ?_)
    have hsz : ops.size = 1:=by rw [← Array.length_toList,hops];rfl
    have h0 : ops[0]? = some o:=by rw [← Array.getElem?_toList,hops];rfl
    rw [hsz]
    simp only [List.range_succ,List.range_zero,List.nil_append,wpOpsS,h0]
    have hw : ∀ y,Region.wanted o y = true:=fun y=>by simp [Region.wanted,hg]
    rw [if_pos (hw _)]
    have hrun : ∀ a w,(execOp (Act.eval a) o).run P w = .ok .recover w:=fun a w=>by
     simp only [execOp,ho]
     rfl
    rw [hrun]
    have hput : ∀ (cv : Value),Rel pub σ rv cv → ER pub σ (frn fn.ntmps) (envOf (updA (argsA 0 args) (some t') rv)) (Act.put { tmps:=cargs ++ Array.replicate (fn.ntmps - cargs.size) undef,defers:=[] } (some t') cv):=fun cv hcv=>by
     rw [envOf_updA]
     exact hER.put (some t') (fun u hu=>by cases hu;exact frn_mem htn) hcv
    have fin : ∀ (cv : Value) (cs' : List Frame) (u' : FrameMode),Rel pub σ rv cv → cs' = { c₀ with mode := u' } :: cs → settle u' = .returning →
      Exit.thenS (z.wpS P (bodyPostS P fn c₀ cs fun e u' w'=>(∃ cv,e = .returned cv) ∧ settle u' = .returning ∧ ∃ pub' σ',SR ⟨w,pub,σ,dom s σ⟩ pub' σ' s' w')) (bodyPostS P fn c₀ cs fun e u' w'=>(∃ cv,e = .returned cv) ∧ settle u' = .returning ∧ ∃ pub' σ',SR ⟨w,pub,σ,dom s σ⟩ pub' σ' s' w') .normal (Act.put { tmps:=cargs ++ Array.replicate (fn.ntmps - cargs.size) undef,defers:=[] } (some t') cv) cs' w:=by
     intro cv cs' u' hcv hcs hset
     refine wpS_of_wp (wp_mono (wexec_ok (N:=frn fn.ntmps) hm z _ s _ hc (hxz ▸ h) ⟨w,pub,σ,dom s σ⟩ pub σ _ w hbase.sig (SR.start hbase) (hput cv hcv)) ?_)
     rintro x a' w' ⟨E,s0,pub0,σ0,⟨_,e1,s1,hv,hres⟩,hs0,he0⟩
     obtain ⟨pub',σ',hs',he'⟩:=hv _ pub0 σ0 a' w' (frn fn.ntmps) hbase.sig hs0 he0
     have hx : (match x with | .normal | .ret=>True | _=>False) ∧ Sat (xres P (envOf e1) s1 rs) fun vs=>gcFin s.length v s' (retV vs) s1:=by
      cases x <;> first | exact ⟨trivial,hres⟩ | exact hres.elim
     obtain ⟨hx,hres⟩:=hx
     obtain ⟨cv2,hR,p,q,h1,_⟩:=res_run (m:=s.length) (v:=v) (s':=s') hbase.sig hs' he' (fun v1 s1 h=>gcFin_ret h) (hrs ▸ hres)
     have hgoal : a'.defers = [] ∧ ∃ u',cs' = { c₀ with mode:=u' } :: cs ∧ ∃ v,(results fn a'.tmps).run P w' = .ok v w' ∧ (∃ cv,Ending.returned v = .returned cv) ∧ settle u' = .returning ∧ ∃ pub' σ',SR ⟨w,pub,σ,dom s σ⟩ pub' σ' s' w':=
      ⟨he'.defers,u',hcs,_,hR,⟨_,rfl⟩,hset,p,q,h1⟩
     cases x <;> first | exact hgoal | exact hx.elim
    cases r with
    | none=>
     have hrv : rv = .niliface:=hr
     subst hrv
     have h1 : recoverD (c₀ :: cs) = none:=by simp [recoverD,hmode,recMode]
     simp only [h1,hd]
     exact fin .nilIface (c₀ :: cs) .returning .niliface (by rw [show (FrameMode.returning) = c₀.mode from hmode.symm]) rfl
    | some val=>
     have hrv : panP rv = some val:=hr
     have h1 : recoverD (c₀ :: cs) = some (val,{ c₀ with mode:=.panicking [{ v:=val,recovered:=true }] } :: cs):=by simp [recoverD,hmode,recMode]
     simp only [h1,hd]
     exact fin val _ (.panicking [{ v:=val,recovered:=true }]) (rel_pan hrv) rfl rfl
   ·cases hsh
  ·cases hsh
 ·cases hsh
def dfShape : Code → Option (Tmp × FuncId × Array Operand)
 | .region _ ops false=>match ops.toList with
  | [o1,o2]=>match o1.op,o1.dst,o1.guard,o2.op,o2.dst,o2.guard with
   | .makeFunc (.func g) first caps,some t,none,.defer ⟨.value (.tmp t'),args,_⟩,none,none=>if t = t' ∧ first = #[] ∧ args = #[] then some (t,g,caps) else none
   | _,_,_,_,_,_=>none
  | _=>none
 | _=>none
theorem dfShape_some {r : Code} {t : Tmp} {g : FuncId} {caps : Array Operand} (h : dfShape r = some (t,g,caps)) : ∃ id ops o1 o2 T,r = .region id ops false ∧ ops.toList = [o1,o2] ∧ o1.op = .makeFunc (.func g) #[] caps ∧ o1.dst = some t ∧ o1.guard = none ∧ o2.op = .defer ⟨.value (.tmp t),#[],T⟩ ∧ o2.dst = none ∧ o2.guard = none:=by
 cases r <;> simp only [dfShape,reduceCtorEq] at h
 rename_i id ops d
 cases d <;> simp only [reduceCtorEq] at h
 split at h
 ·rename_i o1 o2 hops
  split at h
  ·rename_i g0 first caps0 t0 t1 dargs dT h1 h2 h3 h4 h5 h6
   split at h
   ·rename_i hcond
    obtain ⟨rfl,rfl,rfl⟩:=hcond
    cases h
    exact ⟨id,ops,o1,o2,_,rfl,hops,h1,h2,h3,h4,h5,h6⟩
   ·cases h
  ·cases h
 ·cases h
def cutD : Code → Option (List Code × Code × Code)
 | .seq x y=>match dfShape x with
  | some _=>some ([],x,y)
  | none=>(cutD y).map fun p=>(x :: p.1,p.2)
 | _=>none
def wpPre (P : Program) (Q : Exit → Act → World → Prop) : List Code → (Act → World → Prop) → Act → World → Prop
 | [],k,a,w=>k a w
 | x :: r,k,a,w=>x.wp P (Exit.then (wpPre P Q r k) Q) a w
theorem cut_wp {P : Program} {Q : Exit → Act → World → Prop} : ∀ (c : Code) (pre : List Code) (r z : Code),cutD c = some (pre,r,z) → ∀ (a : Act) (w : World),wpPre P Q pre (fun a w=>r.wp P (Exit.then (fun a w=>z.wp P Q a w) Q) a w) a w → c.wp P Q a w:=by
 intro c
 induction c with
 | seq x y ihx ihy=>
  intro pre r z h a w hw
  unfold cutD at h
  split at h
  ·cases h
   exact wp_seq hw
  ·obtain ⟨⟨p1,p2⟩,h1,h2⟩ := Option.map_eq_some_iff.1 h
   cases h2
   refine wp_seq (wp_mono hw ?_)
   intro e a w hq
   cases e <;> first | exact ihy p1 r z h1 a w hq | exact hq
 | _=>intro pre r z h;simp [cutD] at h
def XL (C : WC) (K : KS) : List XC → (AE → Store → Prop) → AE → Store → Prop
 | [],k,e,s=>k e s
 | x :: r,k,e,s=>X C x e s (.andk (XL C K r k) K)
@[simp] theorem XL_nil {C : WC} {K : KS} {k : AE → Store → Prop} {e : AE} {s : Store} : XL C K [] k e s = k e s:=rfl
@[simp] theorem XL_cons {C : WC} {K : KS} {x : XC} {r : List XC} {k : AE → Store → Prop} {e : AE} {s : Store} : XL C K (x :: r) k e s = X C x e s (.andk (XL C K r k) K):=rfl
def DRec (P : Program) (cl : PV) (r : Option Value) (e : AE) (s : Store) (rs : List ResultVar) (f : PV → Store → Prop) : Prop:=
 ∃ g ys s2,cl = .fn (.func g) [] ys ∧ Enters P g ∧ CallRec P g r ys s s2 ∧ Sat (xres P (envOf e) s2 rs) fun vs=>f (retV vs) s2
def wdf (P : Program) (t : Nat) (rs : List ResultVar) (f : PV → Store → Prop) : Exit → AE → Store → Prop:=fun x e s=>match x with
 | .normal | .ret=>DRec P (envOf e t) none e s rs f
 | .panic [⟨v,false,false⟩]=>DRec P (envOf e t) (some v) e s rs f
 | _=>False
section
variable {P : Program} {t : Nat} {rs : List ResultVar} {f : PV → Store → Prop} {e : AE} {s : Store}
@[simp] theorem wdf_normal : wdf P t rs f .normal e s = DRec P (envOf e t) none e s rs f:=rfl
@[simp] theorem wdf_ret : wdf P t rs f .ret e s = DRec P (envOf e t) none e s rs f:=rfl
@[simp] theorem wdf_pan {v : Value} : wdf P t rs f (pan1 v) e s = DRec P (envOf e t) (some v) e s rs f:=rfl
theorem DRec.of {g : FuncId} {ys : List PV} {r : Option Value} {s2 : Store} [h : EnT P g] (hc : CallRec P g r ys s s2) (hk : FN (xres P (envOf e) s2 rs) f s2) : DRec P (.fn (.func g) [] ys) r e s rs f:=⟨g,ys,s2,rfl,h.h,hc,hk⟩
end
structure FD (P : Program) (F : FuncId) (C : Program → Nat → WC) (xs : List XC) (t : Nat) (g : FuncId) (caps : List Operand) (x : XC) (rs : List ResultVar) (fn : Func) : Prop where
 A : ∃ A,(∀ P m,C P m = ⟨P,m,A⟩) ∧ ((fn.body.bind cutD).map fun p=>p.1.all (chkC fn.ntmps A) && chkC ⟨fn.ntmps,[t]⟩ A p.2.2 && decide (t < fn.ntmps)) = some true
 f : P.funcs[F]? = some fn
 x : ((fn.body.bind cutD).bind fun p=>(dfShape p.2.1).map fun q=>(p.1.map lt,q.1,q.2.1,q.2.2.toList,lt p.2.2)) = some (xs,t,g,caps,x)
 r : fn.results.toList = rs
 m : P.follows .mixedOrders = true
theorem FD.ops {P : Program} {F : FuncId} {C : Program → Nat → WC} {xs : List XC} {t : Nat} {g : FuncId} {caps : List Operand} {x : XC} {rs : List ResultVar} {fn : Func} (i : FD P F C xs t g caps x rs fn) {args : List PV} {v : PV} {s s' : Store} (fin : PV → Store → Prop) (hfin : ∀ v1 s1,fin v1 s1 → RetView s.length v1 s1 v s')
  (h : XL (C P s.length) (.fin rs fin) xs (fun e s1=>X (C P s.length) x (updA e (some t) (.fn (.func g) [] (caps.map (evO (envOf e))))) s1 (.fany (wdf P t rs fin))) (argsA 0 args) s) (hl : Nat.ble args.length fn.ntmps = true:=by exact rfl) : CallOK P F args s v s':=by
 obtain ⟨⟨A,hA,hc⟩,hf,hx,hrs,hm⟩:=i
 obtain ⟨⟨pre,r,z⟩,hb,hx2⟩:=Option.bind_eq_some_iff.1 hx
 obtain ⟨⟨t',g',caps'⟩,hsh,hx3⟩:=Option.map_eq_some_iff.1 hx2
 simp only [Prod.mk.injEq] at hx3
 obtain ⟨hx4,rfl,rfl,hx5,hx6⟩:=hx3
 rw [hb,Option.map_some,Option.some.injEq,Bool.and_eq_true,Bool.and_eq_true,decide_eq_true_eq] at hc
 obtain ⟨⟨hpre,hz⟩,htn⟩:=hc
 obtain ⟨c,hbody,hcut⟩:=Option.bind_eq_some_iff.1 hb
 rw [hA] at h
 subst hx4 hx5 hx6
 intro pub σ w cargs hbase hargs
 refine calls_of_wp_defers hf hbody ?_
 refine cut_wp c pre r z hcut _ _ ?_
 have hER:=er_args (k:=fn.ntmps - cargs.size) hargs (Nat.le_of_ble_eq_true hl) rfl
 have leave : ∀ (e : AE) (s1 : Store) (pub' : PHeap) (σ' : Sig) (a' : Act) (w' : World) (N : FrN),(Sat (xres P (envOf e) s1 rs) fun vs => fin (retV vs) s1) → SR ⟨w,pub,σ,dom s σ⟩ pub' σ' s1 w' → ER pub' σ' N (envOf e) a' →
   Leaves P fn a'.tmps (fun e w'=>∃ cv pub' σ',e = .returned cv ∧ SR ⟨w,pub,σ,dom s σ⟩ pub' σ' s' w' ∧ Rel pub' σ' v cv) [] .returning w':=by
  intro e s1 pub' σ' a' w' N hres hs' he'
  obtain ⟨cv2,hR,p,q,h1,h2⟩:=res_run (m:=s.length) (v:=v) (s':=s') hbase.sig hs' he' hfin (hrs ▸ hres)
  exact ⟨cv2,hR,cv2,p,q,rfl,h1,h2⟩
 have key : ∀ (l : List Code) (e : AE) (s0 : Store) (pub0 : PHeap) (σ0 : Sig) (a0 : Act) (w0 : World),l.all (chkC fn.ntmps A) = true →
   XL ⟨P,s.length,A⟩ (.fin rs fin) (l.map lt) (fun e s1=>X ⟨P,s.length,A⟩ (lt z) (updA e (some t') (.fn (.func g') [] (caps'.toList.map (evO (envOf e))))) s1 (.fany (wdf P t' rs fin))) e s0 → SR ⟨w,pub,σ,dom s σ⟩ pub0 σ0 s0 w0 → ER pub0 σ0 (frn fn.ntmps) (envOf e) a0 →
   wpPre P (bodyPostD P fn fun e w'=>∃ cv pub' σ',e = .returned cv ∧ SR ⟨w,pub,σ,dom s σ⟩ pub' σ' s' w' ∧ Rel pub' σ' v cv) l (fun a w_1=>r.wp P (Exit.then (fun a w_2=>z.wp P (bodyPostD P fn fun e w'=>∃ cv pub' σ',e = .returned cv ∧ SR ⟨w,pub,σ,dom s σ⟩ pub' σ' s' w' ∧ Rel pub' σ' v cv) a w_2) (bodyPostD P fn fun e w'=>∃ cv pub' σ',e = .returned cv ∧ SR ⟨w,pub,σ,dom s σ⟩ pub' σ' s' w' ∧ Rel pub' σ' v cv)) a w_1) a0 w0:=by
  intro l
  induction l with
  | nil=>
   intro e s0 pub0 σ0 a0 w0 _ h hs he
   replace h : X ⟨P,s.length,A⟩ (lt z) (updA e (some t') (.fn (.func g') [] (caps'.toList.map (evO (envOf e))))) s0 (.fany (wdf P t' rs fin)):=h
   show r.wp P _ a0 w0
   obtain ⟨id,ops,o1,o2,dT,rfl,hops,h1,h2,h3,h4,h5,h6⟩:=dfShape_some hsh
   refine wp_region ?_
   have hsz : ops.size = 2:=by rw [← Array.length_toList,hops];rfl
   have e0 : ops[0]? = some o1:=by rw [← Array.getElem?_toList,hops];rfl
   have e1 : ops[1]? = some o2:=by rw [← Array.getElem?_toList,hops];rfl
   rw [hsz]
   simp only [List.range_succ,List.range_zero,List.nil_append,List.cons_append,wpOps,e0,e1]
   have hw1 : ∀ y,Region.wanted o1 y = true:=fun y=>by simp [Region.wanted,h3]
   have hw2 : ∀ y,Region.wanted o2 y = true:=fun y=>by simp [Region.wanted,h6]
   rw [if_pos (hw1 _)]
   refine .inl ?_
   have hfr : Rel pub0 σ0 (.fn (.func g') [] (caps'.toList.map (evO (envOf e)))) (.func (.func g') #[] (caps'.map a0.eval)):=
    .fn rfl (fun j v c h=>by simp at h) (map_rel he caps').1 (map_rel he caps').2
   have hrun1 : (execOp a0.eval o1).run P w0 = .ok (.value (.func (.func g') #[] (caps'.map a0.eval))) w0:=by simp [execOp,h1,Instr.makeFunc]
   unfold Oper.wp
   rw [hrun1]
   simp only [Oper.upon,h2]
   rw [if_pos (hw2 _)]
   refine .inl ?_
   have hput:=he.put (some t') (fun u hu=>by cases hu;exact frn_mem htn) hfr
   rw [← envOf_updA] at hput
   generalize hfv : (Value.func (.func g') #[] (caps'.map a0.eval)) = fv at *
   have hget : (a0.put (some t') fv).tmps.getD t' undef = fv:=by
    have:=he.size
    simp [Act.put,Array.getD,this,htn]
   have hrun2 : (execOp (a0.put (some t') fv).eval o2).run P w0 = .ok (.defer { target:=.fn (.func g') (caps'.map a0.eval),args:=#[] }) w0:=by
    simp only [execOp,h4,Go.resolve]
    have : (a0.put (some t') fv).eval (.tmp t') = fv:=hget
    rw [this,← hfv]
    simp [Deferred.ofValue]
   rw [hrun2]
   simp only [Oper.upon,h5,Act.put]
   show z.wp P _ _ _
   have hdef : (a0.put (some t') fv).defers = []:=by have:=hput.defers;simpa using this
   have hN : ER pub0 σ0 ⟨fn.ntmps,[{ target:=.fn (.func g') (caps'.map a0.eval),args:=#[] }],[(t',fv)]⟩ (envOf (updA e (some t') (.fn (.func g') [] (caps'.toList.map (evO (envOf e)))))) { (a0.put (some t') fv) with defers:=[{ target:=.fn (.func g') (caps'.map a0.eval),args:=#[] }] }:=
    ⟨hput.size,rfl,fun u v hv=>by simp only [List.mem_singleton,Prod.mk.injEq] at hv;obtain ⟨rfl,rfl⟩:=hv;exact hget,hput.rel⟩
   have hadef : a0.defers = []:=he.defers
   have hact : ({ (a0.put (some t') fv) with defers:=[{ target:=.fn (.func g') (caps'.map a0.eval),args:=#[] }] } : Act) = { tmps:=a0.tmps.setIfInBounds t' fv,defers:={ target:=.fn (.func g') (caps'.map a0.eval),args:=#[] } :: a0.defers }:=by rw [hadef];rfl
   rw [← hact]
   refine wp_mono (wexec_ok (N:=⟨fn.ntmps,[{ target:=.fn (.func g') (caps'.map a0.eval),args:=#[] }],[(t',fv)]⟩) hm z _ s0 _ hz h ⟨w,pub,σ,dom s σ⟩ pub0 σ0 _ w0 hbase.sig hs hN) ?_
   rintro x a' w' ⟨E,s2,pub2,σ2,⟨_,e2,s3,hv,hres⟩,hs2,he2⟩
   obtain ⟨pub',σ',hs',he'⟩:=hv _ pub2 σ2 a' w' _ hbase.sig hs2 he2
   have hrec : ∀ r0,DRec P (envOf e2 t') r0 e2 s3 rs fin → Leaves P fn a'.tmps (fun e w'=>∃ cv pub' σ',e = .returned cv ∧ SR ⟨w,pub,σ,dom s σ⟩ pub' σ' s' w' ∧ Rel pub' σ' v cv) a'.defers (recMode r0) w':=by
    rintro r0 ⟨g2,ys,s4,hcl,hen,hcr,hfinal⟩
    rw [he'.defers]
    have hrel:=he'.rel t'
    rw [hcl,he'.kept t' fv (by simp),← hfv] at hrel
    cases hrel with
    | fn hsx hrx hsy hry=>
    refine leaves_cons (by cases r0 <;> simp [recMode]) (f:=g') (args:=caps'.map a0.eval) (by simp only [invoke];rw [Array.empty_append];exact hen _ w') ?_
    refine CallsD.mono (hcr pub' σ' w' _ hs'.toBase ⟨hsy,hry⟩) ?_
    rintro en u' w5 ⟨⟨cv,rfl⟩,hset,pub5,σ5,hs5⟩
    show Leaves P fn a'.tmps _ [] (settle u') w5
    rw [hset]
    exact leave e2 s4 pub5 σ5 a' w5 _ hfinal (hs'.trans hs5) (he'.mono hs5.ple hs5.sle)
   have hres2 : wdf P t' rs fin x e2 s3:=hres
   unfold wdf at hres2
   split at hres2
   ·exact hrec none hres2
   ·exact hrec none hres2
   ·exact hrec (some _) hres2
   ·exact hres2.elim
  | cons x l ih=>
   intro e s0 pub0 σ0 a0 w0 hl h hs he
   rw [List.all_cons,Bool.and_eq_true] at hl
   replace h : X ⟨P,s.length,A⟩ (lt x) e s0 (.andk (XL ⟨P,s.length,A⟩ (.fin rs fin) (l.map lt) (fun e s1=>X ⟨P,s.length,A⟩ (lt z) (updA e (some t') (.fn (.func g') [] (caps'.toList.map (evO (envOf e))))) s1 (.fany (wdf P t' rs fin)))) (.fin rs fin)):=h
   show x.wp P _ a0 w0
   refine wp_mono (wexec_ok (N:=frn fn.ntmps) hm x _ s0 _ hl.1 h ⟨w,pub,σ,dom s σ⟩ pub0 σ0 _ w0 hbase.sig hs he) ?_
   rintro y a' w' ⟨E,s2,pub2,σ2,⟨_,e2,s3,hv,hres⟩,hs2,he2⟩
   obtain ⟨pub',σ',hs',he'⟩:=hv _ pub2 σ2 a' w' _ hbase.sig hs2 he2
   cases y with
   | normal=>exact ih e2 s3 pub' σ' a' w' hl.2 hres hs' he'
   | ret=>
    show Leaves P fn a'.tmps _ a'.defers .returning w'
    rw [he'.defers]
    exact leave e2 s3 pub' σ' a' w' _ hres hs' he'
   | exit i=>exact hres.elim
   | goto l=>exact hres.elim
   | panic ch=>exact hres.elim
   | outgrown=>exact hres.elim
 exact key pre (argsA 0 args) s pub σ _ w hpre h (SR.start hbase) hER
theorem FD.op {P : Program} {F : FuncId} {C : Program → Nat → WC} {xs : List XC} {t : Nat} {g : FuncId} {caps : List Operand} {x : XC} {rs : List ResultVar} {fn : Func} (i : FD P F C xs t g caps x rs fn) {args : List PV} {v : PV}
  (h : XL (C P 0) (.fin rs fun v1 s1=>deref s1 6 v1 = v) xs (fun e s1=>X (C P 0) x (updA e (some t) (.fn (.func g) [] (caps.map (evO (envOf e))))) s1 (.fany (wdf P t rs fun v1 s1=>deref s1 6 v1 = v))) (argsA 0 args) []) (hl : Nat.ble args.length fn.ntmps = true:=by exact rfl) : CallOK P F args [] v []:=
 FD.ops i _ (fun v1 s1 h=>RetView.done 6 h) h hl
theorem CallRec.sub {P : Program} {f : FuncId} {args : List PV} {r : Option Value} {t s0' : Store} (ρ : List Nat) (hnd : ρ.Nodup) (hin : ∀ i ∈ ρ,i < t.length) (hlen' : ρ.length ≤ s0'.length)
  (h : CallRec P f r (args.map (renN ρ 4)) (ρ.map fun i=>renObj ρ ((t[i]?).getD .dead)) s0') : CallRec P f r args t (backS ρ t s0'):=by
 intro pub σ w cargs hbase hargs
 obtain ⟨hb0,hal⟩:=ren_base (s0:=ρ.map fun i=>renObj ρ ((t[i]?).getD .dead)) hbase hnd (by simp) (by
  intro j o' hj
  rw [List.getElem?_map,Option.map_eq_some_iff] at hj
  obtain ⟨i,hi,rfl⟩:=hj
  have hil:=hin i (List.mem_of_getElem? hi)
  refine ⟨i,t[i],hi,List.getElem?_eq_getElem hil,?_⟩
  rw [List.getElem?_eq_getElem hil];exact renObj_ren ρ _)
 have hargs0 : RelA pub (σ.ren ρ) (args.map (renN ρ 4)) cargs:=⟨by simpa using hargs.1,fun j x y hx hy=>by
  rw [List.getElem?_map,Option.map_eq_some_iff] at hx
  obtain ⟨u,hu,rfl⟩:=hx
  exact (renN_ren ρ 4 u).rel (hargs.2 j u y hu hy)⟩
 refine CallsD.mono (h pub (σ.ren ρ) w cargs hb0 hargs0) ?_
 rintro en u' w' ⟨h1,h2,pub',σ0',hs'⟩
 obtain ⟨hs2,hσ⟩:=SR.back hbase hnd hin (by simp) hlen' hal hs' hs'.ple hs'.pubIn (fun b hb hn=>(hs'.frame b hb hn).2) hs'.obj
 exact ⟨h1,h2,pub',_,hs2⟩
theorem DRec.sub {P : Program} {rs : List ResultVar} {f : PV → Store → Prop} {e : AE} {s s2 : Store} {g : FuncId} {ys : List PV} {r : Option Value} [h : EnT P g] (ρ : List Nat) (hc : CallRec P g r (ys.map (renN ρ 4)) (liveS ρ s ρ) s2) (hk : FN (xres P (envOf e) (backS ρ s s2) rs) f (backS ρ s s2))
  (hnd : ρ.Nodup:=by simp) (hin : ∀ i ∈ ρ,i < s.length:=by simp) (hlen : ρ.length ≤ s2.length:=by simp) : DRec P (.fn (.func g) [] ys) r e s rs f:=by
 refine .of (CallRec.sub ρ hnd hin hlen ?_) hk
 have : ∀ L : List Nat,liveS ρ s L = L.map fun i=>renObj ρ ((s[i]?).getD .dead):=by
  intro L;induction L with
  | nil=>rfl
  | cons t r ih=>rw [List.map_cons,← ih];rfl
 rw [← this];exact hc
theorem FD.os {P : Program} {F : FuncId} {C : Program → Nat → WC} {xs : List XC} {t : Nat} {g : FuncId} {caps : List Operand} {x : XC} {rs : List ResultVar} {fn : Func} (i : FD P F C xs t g caps x rs fn) {args : List PV} {v : PV}
  (h : XL (C P 0) (.fin rs fun v1 s1=>softV (deref s1 6 v1) = v) xs (fun e s1=>X (C P 0) x (updA e (some t) (.fn (.func g) [] (caps.map (evO (envOf e))))) s1 (.fany (wdf P t rs fun v1 s1=>softV (deref s1 6 v1) = v))) (argsA 0 args) []) (hl : Nat.ble args.length fn.ntmps = true:=by exact rfl) : CallOK P F args [] v []:=
 FD.ops i _ (fun v1 s1 h=>RetView.softV h) h hl
end Go.Pv
