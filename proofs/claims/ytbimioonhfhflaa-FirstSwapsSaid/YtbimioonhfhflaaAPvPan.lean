import Derived.Test.YtbimioonhfhflaaAPvQg
set_option linter.unusedVariables false
set_option linter.unusedSimpArgs false
namespace Go.Pv
open Go
inductive Wd where
 | mk (nm : ByteArray) (args : List Wd)
 deriving Inhabited
def Wd.nm : Wd → ByteArray | .mk a _=>a
def Wd.args : Wd → List Wd | .mk _ a=>a
@[simp] theorem wd_mk {a : ByteArray} {l : List Wd} : (Wd.mk a l).nm = a ∧ (Wd.mk a l).args = l:=⟨rfl,rfl⟩
theorem Wd.ind {P : Wd → Prop} (h : ∀ p,(∀ q ∈ p.args,P q) → P p) (p : Wd) : P p:=by
 refine Wd.rec (motive_1:=P) (motive_2:=fun l=>∀ q ∈ l,P q) (fun a l hl=>h _ hl) (fun q hq=>by cases hq) (fun a r ha hr q hq=>?_) p
 cases hq with
 | head=>exact ha
 | tail _ hq=>exact hr q hq
mutual
def wrd : Wd → List PV
 | .mk a l=>[.str a,.list (wrds l)]
def wrds : List Wd → List (List PV)
 | []=>[]
 | p :: r=>wrd p :: wrds r
end
theorem wrds_eq (l : List Wd) : wrds l = l.map wrd:=by
 induction l with
 | nil=>rfl
 | cons f r ih=>rw [wrds,ih];rfl
theorem wrd_eq (p : Wd) : wrd p = [.str p.nm,.list (p.args.map wrd)]:=by
 cases p with | mk a l=>rw [wrd,wrds_eq];rfl
section
variable {p : Wd}
theorem wrd_flat (p : Wd) : (wrd p).all flatV = true:=by rw [wrd_eq];rfl
@[simp] theorem wrd_length : (wrd p).length = 2:=by rw [wrd_eq];rfl
@[simp] theorem wrd_cell : (wrd p).all isCell = true:=by rw [wrd_eq];rfl
@[simp] theorem wrd_isCell : (∀ x ∈ wrd p,isCell x = true) = True:=by rw [wrd_eq];simp
@[simp] theorem wrd_take2 : (wrd p).take 2 = wrd p:=List.take_of_length_le (by simp)
@[simp] theorem wrd_get0 : (wrd p)[0]? = some (.str p.nm):=by rw [wrd_eq];rfl
@[simp] theorem wrd_ge0 (h : 0 < (wrd p).length) : (wrd p)[0] = .str p.nm:=Option.some.inj ((List.getElem?_eq_getElem h).symm.trans wrd_get0)
@[simp] theorem wrd_get1 : (wrd p)[1]? = some (.list (p.args.map wrd)):=by rw [wrd_eq];rfl
@[simp] theorem wrd_ge1 (h : 1 < (wrd p).length) : (wrd p)[1] = .list (p.args.map wrd):=Option.some.inj ((List.getElem?_eq_getElem h).symm.trans wrd_get1)
@[simp] theorem wrd_drop1 : (wrd p).drop 1 = [.list (p.args.map wrd)]:=by rw [wrd_eq];rfl
@[simp] theorem wrd_drop2 : (wrd p).drop 2 = []:=by rw [wrd_eq];rfl
@[simp] theorem wrd_tail : (wrd p).tail = [.list (p.args.map wrd)]:=by rw [wrd_eq];rfl
@[simp] theorem wrd_renm {ρ : List Nat} {n : Nat} : (wrd p).map (renN ρ n) = wrd p:=map_id_of (fun v=>flat_ren) (wrd_flat p)
@[simp] theorem wrd_derefm {s : Store} {n : Nat} : (wrd p).map (deref s n) = wrd p:=map_id_of (fun v=>flat_deref) (wrd_flat p)
@[simp] theorem wrd_frz {F : List Nat} {s : Store} : (wrd p).map (frzV F s) = wrd p:=map_id_of (fun v=>frzV_flat) (wrd_flat p)
@[simp] theorem wrd_up {ρ : List Nat} {n : Nat} : (wrd p).map (upN ρ n) = wrd p:=map_id_of (fun v=>flat_up) (wrd_flat p)
@[simp] theorem wrd_refs {n : Nat} : (wrd p).flatMap (refsN n) = []:=by rw [wrd_eq];simp
@[simp] theorem wrd_soft : (wrd p).map soft1 = wrd p:=by rw [wrd_eq];rfl
instance : FlatRow wrd:=⟨wrd_flat⟩
@[simp] theorem cl_wrd : Closed (.agg (wrd p)):=closed_agg (by rw [wrd_eq];simp)
end
inductive Ex where
 | mk (k : Int) (nm : ByteArray) (words : List Wd) (kids : List Ex)
 deriving Inhabited
def Ex.k : Ex → Int | .mk a _ _ _=>a
def Ex.nm : Ex → ByteArray | .mk _ a _ _=>a
def Ex.words : Ex → List Wd | .mk _ _ a _=>a
def Ex.kids : Ex → List Ex | .mk _ _ _ a=>a
@[simp] theorem ex_mk {k : Int} {a : ByteArray} {w : List Wd} {l : List Ex} : (Ex.mk k a w l).k = k ∧ (Ex.mk k a w l).nm = a ∧ (Ex.mk k a w l).words = w ∧ (Ex.mk k a w l).kids = l:=⟨rfl,rfl,rfl,rfl⟩
theorem Ex.ind {P : Ex → Prop} (h : ∀ p,(∀ q ∈ p.kids,P q) → P p) (p : Ex) : P p:=by
 refine Ex.rec (motive_1:=P) (motive_2:=fun l=>∀ q ∈ l,P q) (fun a b c l hl=>h _ hl) (fun q hq=>by cases hq) (fun a r ha hr q hq=>?_) p
 cases hq with
 | head=>exact ha
 | tail _ hq=>exact hr q hq
mutual
def exr : Ex → List PV
 | .mk k a w l=>[.int .i64 k,.str a,.list (w.map wrd),.list (exrs l)]
def exrs : List Ex → List (List PV)
 | []=>[]
 | p :: r=>exr p :: exrs r
end
theorem exrs_eq (l : List Ex) : exrs l = l.map exr:=by
 induction l with
 | nil=>rfl
 | cons f r ih=>rw [exrs,ih];rfl
theorem exr_eq (p : Ex) : exr p = [.int .i64 p.k,.str p.nm,.list (p.words.map wrd),.list (p.kids.map exr)]:=by
 cases p with | mk k a w l=>rw [exr,exrs_eq];rfl
section
variable {p : Ex}
theorem exr_flat (p : Ex) : (exr p).all flatV = true:=by rw [exr_eq];rfl
@[simp] theorem exr_length : (exr p).length = 4:=by rw [exr_eq];rfl
@[simp] theorem exr_cell : (exr p).all isCell = true:=by rw [exr_eq];rfl
@[simp] theorem exr_isCell : (∀ x ∈ exr p,isCell x = true) = True:=by rw [exr_eq];simp
@[simp] theorem exr_take4 : (exr p).take 4 = exr p:=List.take_of_length_le (by simp)
@[simp] theorem exr_get0 : (exr p)[0]? = some (.int .i64 p.k):=by rw [exr_eq];rfl
@[simp] theorem exr_ge0 (h : 0 < (exr p).length) : (exr p)[0] = .int .i64 p.k:=Option.some.inj ((List.getElem?_eq_getElem h).symm.trans exr_get0)
@[simp] theorem exr_get1 : (exr p)[1]? = some (.str p.nm):=by rw [exr_eq];rfl
@[simp] theorem exr_ge1 (h : 1 < (exr p).length) : (exr p)[1] = .str p.nm:=Option.some.inj ((List.getElem?_eq_getElem h).symm.trans exr_get1)
@[simp] theorem exr_get2 : (exr p)[2]? = some (.list (p.words.map wrd)):=by rw [exr_eq];rfl
@[simp] theorem exr_ge2 (h : 2 < (exr p).length) : (exr p)[2] = .list (p.words.map wrd):=Option.some.inj ((List.getElem?_eq_getElem h).symm.trans exr_get2)
@[simp] theorem exr_get3 : (exr p)[3]? = some (.list (p.kids.map exr)):=by rw [exr_eq];rfl
@[simp] theorem exr_ge3 (h : 3 < (exr p).length) : (exr p)[3] = .list (p.kids.map exr):=Option.some.inj ((List.getElem?_eq_getElem h).symm.trans exr_get3)
@[simp] theorem exr_drop1 : (exr p).drop 1 = [.str p.nm,.list (p.words.map wrd),.list (p.kids.map exr)]:=by rw [exr_eq];rfl
@[simp] theorem exr_drop2 : (exr p).drop 2 = [.list (p.words.map wrd),.list (p.kids.map exr)]:=by rw [exr_eq];rfl
@[simp] theorem exr_drop3 : (exr p).drop 3 = [.list (p.kids.map exr)]:=by rw [exr_eq];rfl
@[simp] theorem exr_drop4 : (exr p).drop 4 = []:=by rw [exr_eq];rfl
@[simp] theorem exr_tail : (exr p).tail = [.str p.nm,.list (p.words.map wrd),.list (p.kids.map exr)]:=by rw [exr_eq];rfl
@[simp] theorem exr_renm {ρ : List Nat} {n : Nat} : (exr p).map (renN ρ n) = exr p:=map_id_of (fun v=>flat_ren) (exr_flat p)
@[simp] theorem exr_derefm {s : Store} {n : Nat} : (exr p).map (deref s n) = exr p:=map_id_of (fun v=>flat_deref) (exr_flat p)
@[simp] theorem exr_frz {F : List Nat} {s : Store} : (exr p).map (frzV F s) = exr p:=map_id_of (fun v=>frzV_flat) (exr_flat p)
@[simp] theorem exr_up {ρ : List Nat} {n : Nat} : (exr p).map (upN ρ n) = exr p:=map_id_of (fun v=>flat_up) (exr_flat p)
@[simp] theorem exr_refs {n : Nat} : (exr p).flatMap (refsN n) = []:=by rw [exr_eq];simp
@[simp] theorem exr_soft : (exr p).map soft1 = exr p:=by rw [exr_eq];rfl
instance : FlatRow exr:=⟨exr_flat⟩
@[simp] theorem cl_exr : Closed (.agg (exr p)):=closed_agg (by rw [exr_eq];simp)
end
end Go.Pv
namespace Go.Pv
open Go
section
variable {C : WC} {e : AE} {s S : Store} {q : AE → Store → Prop} {t c z k zk b : Nat} {L ids lens ρ0 : List Nat} {xss : List (List (List PV))}
end
attribute [simp] List.set_append_left List.set_append_right
end Go.Pv
namespace Go.Pv
open Go
theorem RetView.frz {m : Nat} (F : List Nat) (v : PV) (s : Store) : RetView m v s (frzV F s v) (s.mapIdx (frzO F s)):=by
 intro C pub σ w cv hC hs hr
 have her : ER pub σ ⟨1,[],[]⟩ (envOf [(0,v)]) { tmps:=#[cv],defers:=[] }:=by
  refine ⟨rfl,rfl,fun _ _ h=>(by cases h),fun t=>?_⟩
  by_cases ht : t = 0
  ·subst ht;simpa [envOf] using hr
  ·have : envOf [(0,v)] t = .any := by simp [envOf,ht]
   rw [this];exact .any
 obtain ⟨p,q,h1,h2⟩:=withFrz_view (m:=m) F [(0,v)] C pub σ _ w ⟨1,[],[]⟩ hC hs her
 exact ⟨p,q,h1,by simpa [withFrz,envOf,frzV] using h2.rel 0⟩
def OZ (F : List Nat) (m : Nat) (v : PV) (s' : Store) (v1 : PV) (s1 : Store) : Prop:=gcFin m v s' (frzV F s1 v1) (s1.mapIdx (frzO F s1))
def ozFin (m : Nat) (v : PV) (s' : Store) (v1 : PV) (s1 : Store) : Prop:=OZ (grow s1 64 ((refsN 4 v1).filter fun r=>!r.2) []) m v s' v1 s1
@[simp] theorem ozFin_eq {m : Nat} {v v1 : PV} {s1 s' : Store} : ozFin m v s' v1 s1 = OZ (grow s1 64 ((refsN 4 v1).filter fun r=>!r.2) []) m v s' v1 s1:=rfl
theorem frzV_nil {s : Store} {v : PV} : frzV [] s v = v:=by unfold frzV;simp
theorem frzO_nil {s : Store} {i : Nat} {o : PObj} : frzO [] s i o = o:=by
 unfold frzO
 have h : frzV [] s = id:=by funext v;exact frzV_nil
 have h2 : List.map (frzV [] s) = id:=by rw [h];funext l;simp
 rw [if_neg (by simp)]
 cases o <;> simp [h,h2]
@[simp] theorem OZ_nil {m : Nat} {v v1 : PV} {s1 s' : Store} : OZ [] m v s' v1 s1 = gcFin m v s' v1 s1:=by
 unfold OZ
 have : s1.mapIdx (frzO [] s1) = s1:=by
  apply List.ext_getElem?
  intro i
  rw [List.getElem?_mapIdx]
  cases s1[i]? <;> simp [frzO_nil]
 rw [frzV_nil,this]
@[simp] theorem OZ_cons {i : Nat} {F : List Nat} {m : Nat} {v v1 : PV} {s1 s' : Store} : OZ (i :: F) m v s' v1 s1 = gcFin m v s' (frzV (i :: F) s1 v1) (s1.mapIdx (frzO (i :: F) s1)):=rfl
theorem ozFin_ret {m : Nat} {v v1 : PV} {s1 s' : Store} (h : ozFin m v s' v1 s1) : RetView m v1 s1 v s':=RetView.trans (RetView.frz _ _ _) (gcFin_ret h)
section
variable {C : WC} {d : Option Tmp} {fid : FuncId} {vs : List PV} {e : AE} {s s2 : Store} {K : KS} {v : PV} {t : RT}
theorem CT.of [EnT C.P fid] (hc : CallOK C.P fid vs s v s2) (hk : TR C t (updA e d v) s2 K) : CT C d (some (fid,vs)) t e s K:=⟨fid,vs,rfl,EnT.h,.inl ⟨v,s2,hc,hk⟩⟩
theorem CT.sub [EnT C.P fid] (ρ : List Nat) (hc : CallOK C.P fid (vs.map (renN ρ 4)) (liveS ρ s ρ) v s2) (hk : TR C t (updA e d (upN (ρ ++ List.range' s.length (s2.length - ρ.length)) 4 v)) (backS ρ s s2) K)
  (hnd : ρ.Nodup:=by simp) (hin : ∀ i ∈ ρ,i < s.length:=by simp) (hlen : ρ.length ≤ s2.length:=by simp) : CT C d (some (fid,vs)) t e s K:=by
 refine ⟨fid,vs,rfl,EnT.h,.inl ⟨_,_,CallOK.sub ρ hnd hin hlen ?_,hk⟩⟩
 have : ∀ L : List Nat,liveS ρ s L = L.map fun i=>renObj ρ ((s[i]?).getD .dead):=by
  intro L;induction L with
  | nil=>rfl
  | cons i r ih=>rw [liveS,ih];rfl
 rwa [← this]
end
def killO (D : List Nat) (i : Nat) (o : PObj) : PObj:=if i ∈ D then .dead else o
theorem RetView.kill {m : Nat} (D : List Nat) (v : PV) (s : Store) : RetView m v s v (s.mapIdx (killO D)):=by
 intro C pub σ w cv hC hs hr
 refine ⟨pub,σ,hs.sub (by simp) fun k o h hd=>?_,hr⟩
 rw [List.getElem?_mapIdx] at h
 cases hk : s[k]? with
 | none=>rw [hk] at h;cases h
 | some o1=>
  rw [hk] at h
  simp only [Option.map_some,Option.some.injEq] at h
  unfold killO at h
  split at h
  ·exact absurd h.symm hd
  ·rw [h]
def odFin (D : List Nat) (m : Nat) (v : PV) (s' : Store) (v1 : PV) (s1 : Store) : Prop:=ozFin m v s' v1 (s1.mapIdx (killO D))
@[simp] theorem odFin_eq {D : List Nat} {m : Nat} {v v1 : PV} {s1 s' : Store} : odFin D m v s' v1 s1 = ozFin m v s' v1 (s1.mapIdx (killO D)):=rfl
@[simp] theorem killO_eq {D : List Nat} {i : Nat} {o : PObj} : killO D i o = if i ∈ D then .dead else o:=rfl
theorem FI.od {P : Program} {F : FuncId} {C : Program → Nat → WC} {x : XC} {rs : List ResultVar} {fn : Func} (i : FI P F C x rs fn) (D : List Nat) {args : List PV} {v : PV} {s s' : Store} (h : X (C P s.length) x (argsA 0 args) s (.fin rs (odFin D s.length v s'))) (hl : Nat.ble args.length fn.ntmps = true:=by exact rfl) : CallOK P F args s v s':=
 FI.ops i _ (fun v1 s1 h=>RetView.trans (RetView.kill D _ _) (ozFin_ret h)) h hl
end Go.Pv
namespace Go.Pv
open Go
def panFin (D : List Nat) (m : Nat) (v : Value) (s' : Store) (x : Exit) (s1 : Store) : Prop:=x = pan1 v ∧ gcFin m (.tuple []) s' (.tuple []) (s1.mapIdx (killO D))
theorem pan1_inj {u v : Value} : (pan1 u = pan1 v) = (u = v):=by
 apply propext;constructor
 ·intro h;unfold pan1 at h;injection h with h;injection h with h;injection h
 ·rintro rfl;rfl
section
variable {D : List Nat} {m : Nat} {u v : Value} {s s' : Store}
@[simp] theorem panFin_pan : panFin D m v s' (pan1 u) s = (u = v ∧ gcFin m (.tuple []) s' (.tuple []) (s.mapIdx (killO D))):=by unfold panFin;rw [pan1_inj]
@[simp] theorem panFin_normal : panFin D m v s' .normal s = False:=by unfold panFin;simp [pan1]
@[simp] theorem panFin_ret : panFin D m v s' .ret s = False:=by unfold panFin;simp [pan1]
end
theorem er_args {pub : PHeap} {σ : Sig} {args : List PV} {cargs : Array Value} {n k : Nat} (hargs : RelA pub σ args cargs) (hn : args.length ≤ n) (hk : k = n - cargs.size) : ER pub σ ⟨n,[],[]⟩ (envOf (argsA 0 args)) { tmps:=cargs ++ Array.replicate k undef,defers:=[] }:=by
 subst hk
 refine ⟨by simp [hargs.1];omega,rfl,fun _ _ h=>(by cases h),fun t=>?_⟩
 rw [argsA_get,if_pos (Nat.zero_le _),Nat.sub_zero]
 by_cases ht : t < args.length
 ·have h1 : args[t]? = some args[t] := List.getElem?_eq_getElem ht
  have h2 : cargs[t]? = some (cargs[t]'(by rw [hargs.1];exact ht)):=Array.getElem?_eq_getElem _
  have h3 : (cargs ++ Array.replicate (n - cargs.size) undef).getD t undef = cargs[t]'(by rw [hargs.1];exact ht):=by
   rw [Array.getD_eq_getD_getElem?,Array.getElem?_append_left (by rw [hargs.1];exact ht),h2];rfl
  rw [h3]
  simp only [h1,Option.getD_some]
  exact hargs.2 t _ _ h1 h2
 ·rw [List.getElem?_eq_none (show args.length ≤ t by omega),Option.getD_none]
  exact .any
def StV (m : Nat) (s s' : Store) : Prop:=∀ C pub σ w,(∀ i,m ≤ i → C.sig i = none) → SR C pub σ s w → ∃ pub' σ',SR C pub' σ' s' w
theorem StV.of {m : Nat} {s s' : Store} {D : List Nat} (h : gcFin m (.tuple []) s' (.tuple []) (s.mapIdx (killO D))) : StV m s s':=by
 intro C pub σ w hC hs
 have hr : Rel pub σ (.tuple []) (.tuple #[]):=.tuple rfl fun j v c h=>by simp at h
 obtain ⟨p,q,h1,_⟩:=(RetView.trans (RetView.kill D _ _) (gcFin_ret h)) C pub σ w _ hC hs hr
 exact ⟨p,q,h1⟩
section
variable {P : Program} {F : FuncId} {C : Program → Nat → WC} {x : XC} {rs : List ResultVar} {fn : Func}
theorem FI.pan (i : FI P F C x rs fn) (D : List Nat) {args : List PV} {v : Value} {s s' : Store} (h : X (C P s.length) x (argsA 0 args) s (.fpan (panFin D s.length v s'))) (hl : Nat.ble args.length fn.ntmps = true:=by exact rfl) : CallPan P F args s v s':=by
 obtain ⟨⟨A,hA,hc⟩,hf,hx,hr,hm⟩:=i
 cases hb : fn.body with
 | none=>rw [hb] at hx;cases hx
 | some c=>
  rw [hb] at hx
  unfold chkB at hc
  rw [hb] at hc
  have hxc : lt c = x:=Option.some.inj hx
  subst hxc
  unfold X at h
  rw [hA] at h
  intro pub σ w cargs hbase hargs
  refine calls_of_wp hf hb ?_
  have hER:=er_args (k:=fn.ntmps - cargs.size) hargs (Nat.le_of_ble_eq_true hl) rfl
  refine wp_mono (wexec_ok (N:=⟨fn.ntmps,[],[]⟩) hm c _ s _ hc h ⟨w,pub,σ,dom s σ⟩ pub σ _ w hbase.sig (SR.start hbase) hER) ?_
  rintro y a' w' ⟨E,s0,pub0,σ0,⟨_,e1,s1,hv,hres⟩,hs0,he0⟩
  obtain ⟨pub',σ',hs',he'⟩:=hv _ pub0 σ0 a' w' ⟨fn.ntmps,[],[]⟩ hbase.sig hs0 he0
  obtain ⟨hy,hg⟩ : panFin D s.length v s' y s1:=hres
  subst hy
  obtain ⟨pub2,σ2,hs2⟩:=StV.of hg _ pub' σ' w' hbase.sig hs'
  exact ⟨he'.defers,pub2,σ2,rfl,hs2⟩
end
theorem CallPan.sub {P : Program} {f : FuncId} {args : List PV} {v : Value} {t s0' : Store} (ρ : List Nat) (hnd : ρ.Nodup) (hin : ∀ i ∈ ρ,i < t.length) (hlen' : ρ.length ≤ s0'.length)
  (h : CallPan P f (args.map (renN ρ 4)) (ρ.map fun i=>renObj ρ ((t[i]?).getD .dead)) v s0') : CallPan P f args t v (backS ρ t s0'):=by
 intro pub σ w cargs hbase hargs
 obtain ⟨hb0,hal⟩:=ren_base (s0:=ρ.map fun i=>renObj ρ ((t[i]?).getD .dead)) hbase hnd (by simp) (by
  intro j o' hj
  rw [List.getElem?_map,Option.map_eq_some_iff] at hj
  obtain ⟨i,hi,rfl⟩:=hj
  have hil:=hin i (List.mem_of_getElem? hi)
  refine ⟨i,t[i],hi,List.getElem?_eq_getElem hil,?_⟩
  rw [List.getElem?_eq_getElem hil];exact renObj_ren ρ _)
 have hargs0 : RelA pub (σ.ren ρ) (args.map (renN ρ 4)) cargs:=⟨by simpa using hargs.1,fun j x y hx hy=>by
  rw [List.getElem?_map,Option.map_eq_some_iff] at hx
  obtain ⟨u,hu,rfl⟩:=hx
  exact (renN_ren ρ 4 u).rel (hargs.2 j u y hu hy)⟩
 refine Calls.mono (h pub (σ.ren ρ) w cargs hb0 hargs0) ?_
 rintro en w' ⟨pub',σ0',rfl,hs'⟩
 obtain ⟨hs2,hσ⟩:=SR.back hbase hnd hin (by simp) hlen' hal hs' hs'.ple hs'.pubIn (fun b hb hn=>(hs'.frame b hb hn).2) hs'.obj
 exact ⟨pub',_,rfl,hs2⟩
theorem CL.psub {C : WC} {f : Operand} {args : Array Operand} {d : Option Tmp} {fid : FuncId} {vs : List PV} {e : AE} {s s2 : Store} {K : KS} {v : Value} {ops : List LOp} [EnT C.P fid] (ρ : List Nat) (hc : CallPan C.P fid (vs.map (renN ρ 4)) (liveS ρ s ρ) v s2) (hk : E C K (pan1 v) e (backS ρ s s2))
  (hnd : ρ.Nodup:=by simp) (hin : ∀ i ∈ ρ,i < s.length:=by simp) (hlen : ρ.length ≤ s2.length:=by simp) : CL C f args d (some (fid,vs)) ops e s K:=by
 refine .pan (CallPan.sub ρ hnd hin hlen ?_) hk
 have : ∀ L : List Nat,liveS ρ s L = L.map fun i=>renObj ρ ((s[i]?).getD .dead):=by
  intro L;induction L with
  | nil=>rfl
  | cons t r ih=>rw [List.map_cons,← ih];rfl
 rw [← this];exact hc
theorem CT.pan {C : WC} {d : Option Tmp} {fid : FuncId} {vs : List PV} {e : AE} {s s2 : Store} {K : KS} {v : Value} {t : RT} [EnT C.P fid] (hc : CallPan C.P fid vs s v s2) (hk : E C K (pan1 v) [] s2) : CT C d (some (fid,vs)) t e s K:=⟨fid,vs,rfl,EnT.h,.inr ⟨v,s2,hc,hk⟩⟩
theorem CT.psub {C : WC} {d : Option Tmp} {fid : FuncId} {vs : List PV} {e : AE} {s s2 : Store} {K : KS} {v : Value} {t : RT} [EnT C.P fid] (ρ : List Nat) (hc : CallPan C.P fid (vs.map (renN ρ 4)) (liveS ρ s ρ) v s2) (hk : E C K (pan1 v) [] (backS ρ s s2))
  (hnd : ρ.Nodup:=by simp) (hin : ∀ i ∈ ρ,i < s.length:=by simp) (hlen : ρ.length ≤ s2.length:=by simp) : CT C d (some (fid,vs)) t e s K:=by
 refine .pan (CallPan.sub ρ hnd hin hlen ?_) hk
 have : ∀ L : List Nat,liveS ρ s L = L.map fun i=>renObj ρ ((s[i]?).getD .dead):=by
  intro L;induction L with
  | nil=>rfl
  | cons t r ih=>rw [List.map_cons,← ih];rfl
 rw [← this];exact hc
end Go.Pv
