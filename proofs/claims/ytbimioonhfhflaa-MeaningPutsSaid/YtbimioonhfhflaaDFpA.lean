import Derived.Test.YtbimioonhfhflaaDPvOz
import Derived.Recover
import Derived.Test.YtbimioonhfhflaaDPvSort
import Derived.Test.YtbimioonhfhflaaDFbA
set_option linter.unusedVariables false
set_option linter.unusedSimpArgs false
set_option maxRecDepth 100000
set_option maxHeartbeats 4000000
namespace Go.Pv
open Go
def panFin (D : List Nat) (m : Nat) (v : Value) (s' : Store) (x : Exit) (s1 : Store) : Prop:=x = pan1 v ∧ gcFin m (.tuple []) s' (.tuple []) (s1.mapIdx (killO D))
theorem pan1_inj {u v : Value} : (pan1 u = pan1 v) = (u = v):=by
 apply propext;constructor
 ·intro h;unfold pan1 at h;injection h with h;injection h with h;injection h
 ·rintro rfl;rfl
section
variable {D : List Nat} {m : Nat} {u v : Value} {s s' : Store}
@[simp] theorem panFin_pan : panFin D m v s' (pan1 u) s = (u = v ∧ gcFin m (.tuple []) s' (.tuple []) (s.mapIdx (killO D))):=by unfold panFin;rw [pan1_inj]
@[simp] theorem panFin_normal : panFin D m v s' .normal s = False:=by unfold panFin;simp [pan1]
@[simp] theorem panFin_ret : panFin D m v s' .ret s = False:=by unfold panFin;simp [pan1]
end
theorem er_args {pub : PHeap} {σ : Sig} {args : List PV} {cargs : Array Value} {n k : Nat} (hargs : RelA pub σ args cargs) (hn : args.length ≤ n) (hk : k = n - cargs.size) : ER pub σ ⟨n,[],[]⟩ (envOf (argsA 0 args)) { tmps:=cargs ++ Array.replicate k undef,defers:=[] }:=by
 subst hk
 refine ⟨by simp [hargs.1];omega,rfl,fun _ _ h=>(by cases h),fun t=>?_⟩
 rw [argsA_get,if_pos (Nat.zero_le _),Nat.sub_zero]
 by_cases ht : t < args.length
 ·have h1 : args[t]? = some args[t] := List.getElem?_eq_getElem ht
  have h2 : cargs[t]? = some (cargs[t]'(by rw [hargs.1];exact ht)):=Array.getElem?_eq_getElem _
  have h3 : (cargs ++ Array.replicate (n - cargs.size) undef).getD t undef = cargs[t]'(by rw [hargs.1];exact ht):=by
   rw [Array.getD_eq_getD_getElem?,Array.getElem?_append_left (by rw [hargs.1];exact ht),h2];rfl
  rw [h3]
  simp only [h1,Option.getD_some]
  exact hargs.2 t _ _ h1 h2
 ·rw [List.getElem?_eq_none (show args.length ≤ t by omega),Option.getD_none]
  exact .any
def StV (m : Nat) (s s' : Store) : Prop:=∀ C pub σ w,(∀ i,m ≤ i → C.sig i = none) → SR C pub σ s w → ∃ pub' σ',SR C pub' σ' s' w
theorem StV.of {m : Nat} {s s' : Store} {D : List Nat} (h : gcFin m (.tuple []) s' (.tuple []) (s.mapIdx (killO D))) : StV m s s':=by
 intro C pub σ w hC hs
 have hr : Rel pub σ (.tuple []) (.tuple #[]):=.tuple rfl fun j v c h=>by simp at h
 obtain ⟨p,q,h1,_⟩:=(RetView.trans (RetView.kill D _ _) (gcFin_ret h)) C pub σ w _ hC hs hr
 exact ⟨p,q,h1⟩
section
variable {P : Program} {F : FuncId} {C : Program → Nat → WC} {x : XC} {rs : List ResultVar} {fn : Func}
theorem FI.pan (i : FI P F C x rs fn) (D : List Nat) {args : List PV} {v : Value} {s s' : Store} (h : X (C P s.length) x (argsA 0 args) s (.fpan (panFin D s.length v s'))) (hl : Nat.ble args.length fn.ntmps = true:=by exact rfl) : CallPan P F args s v s':=by
 obtain ⟨⟨A,hA,hc⟩,hf,hx,hr,hm⟩:=i
 cases hb : fn.body with
 | none=>rw [hb] at hx;cases hx
 | some c=>
  rw [hb] at hx
  unfold chkB at hc
  rw [hb] at hc
  have hxc : lt c = x:=Option.some.inj hx
  subst hxc
  unfold X at h
  rw [hA] at h
  intro pub σ w cargs hbase hargs
  refine calls_of_wp hf hb ?_
  have hER:=er_args (k:=fn.ntmps - cargs.size) hargs (Nat.le_of_ble_eq_true hl) rfl
  refine wp_mono (wexec_ok (N:=⟨fn.ntmps,[],[]⟩) hm c _ s _ hc h ⟨w,pub,σ,dom s σ⟩ pub σ _ w hbase.sig (SR.start hbase) hER) ?_
  rintro y a' w' ⟨E,s0,pub0,σ0,⟨_,e1,s1,hv,hres⟩,hs0,he0⟩
  obtain ⟨pub',σ',hs',he'⟩:=hv _ pub0 σ0 a' w' ⟨fn.ntmps,[],[]⟩ hbase.sig hs0 he0
  obtain ⟨hy,hg⟩ : panFin D s.length v s' y s1:=hres
  subst hy
  obtain ⟨pub2,σ2,hs2⟩:=StV.of hg _ pub' σ' w' hbase.sig hs'
  exact ⟨he'.defers,pub2,σ2,rfl,hs2⟩
end
theorem CallPan.sub {P : Program} {f : FuncId} {args : List PV} {v : Value} {t s0' : Store} (ρ : List Nat) (hnd : ρ.Nodup) (hin : ∀ i ∈ ρ,i < t.length) (hlen' : ρ.length ≤ s0'.length)
  (h : CallPan P f (args.map (renN ρ 4)) (ρ.map fun i=>renObj ρ ((t[i]?).getD .dead)) v s0') : CallPan P f args t v (backS ρ t s0'):=by
 intro pub σ w cargs hbase hargs
 obtain ⟨hb0,hal⟩:=ren_base (s0:=ρ.map fun i=>renObj ρ ((t[i]?).getD .dead)) hbase hnd (by simp) (by
  intro j o' hj
  rw [List.getElem?_map,Option.map_eq_some_iff] at hj
  obtain ⟨i,hi,rfl⟩:=hj
  have hil:=hin i (List.mem_of_getElem? hi)
  refine ⟨i,t[i],hi,List.getElem?_eq_getElem hil,?_⟩
  rw [List.getElem?_eq_getElem hil];exact renObj_ren ρ _)
 have hargs0 : RelA pub (σ.ren ρ) (args.map (renN ρ 4)) cargs:=⟨by simpa using hargs.1,fun j x y hx hy=>by
  rw [List.getElem?_map,Option.map_eq_some_iff] at hx
  obtain ⟨u,hu,rfl⟩:=hx
  exact (renN_ren ρ 4 u).rel (hargs.2 j u y hu hy)⟩
 refine Calls.mono (h pub (σ.ren ρ) w cargs hb0 hargs0) ?_
 rintro en w' ⟨pub',σ0',rfl,hs'⟩
 obtain ⟨hs2,hσ⟩:=SR.back hbase hnd hin (by simp) hlen' hal hs' hs'.ple hs'.pubIn (fun b hb hn=>(hs'.frame b hb hn).2) hs'.obj
 exact ⟨pub',_,rfl,hs2⟩
theorem CL.psub {C : WC} {f : Operand} {args : Array Operand} {d : Option Tmp} {fid : FuncId} {vs : List PV} {e : AE} {s s2 : Store} {K : KS} {v : Value} {ops : List LOp} [EnT C.P fid] (ρ : List Nat) (hc : CallPan C.P fid (vs.map (renN ρ 4)) (liveS ρ s ρ) v s2) (hk : E C K (pan1 v) e (backS ρ s s2))
  (hnd : ρ.Nodup:=by simp) (hin : ∀ i ∈ ρ,i < s.length:=by simp) (hlen : ρ.length ≤ s2.length:=by simp) : CL C f args d (some (fid,vs)) ops e s K:=by
 refine .pan (CallPan.sub ρ hnd hin hlen ?_) hk
 have : ∀ L : List Nat,liveS ρ s L = L.map fun i=>renObj ρ ((s[i]?).getD .dead):=by
  intro L;induction L with
  | nil=>rfl
  | cons t r ih=>rw [List.map_cons,← ih];rfl
 rw [← this];exact hc
theorem CT.pan {C : WC} {d : Option Tmp} {fid : FuncId} {vs : List PV} {e : AE} {s s2 : Store} {K : KS} {v : Value} {t : RT} [EnT C.P fid] (hc : CallPan C.P fid vs s v s2) (hk : E C K (pan1 v) [] s2) : CT C d (some (fid,vs)) t e s K:=⟨fid,vs,rfl,EnT.h,.inr ⟨v,s2,hc,hk⟩⟩
theorem CT.psub {C : WC} {d : Option Tmp} {fid : FuncId} {vs : List PV} {e : AE} {s s2 : Store} {K : KS} {v : Value} {t : RT} [EnT C.P fid] (ρ : List Nat) (hc : CallPan C.P fid (vs.map (renN ρ 4)) (liveS ρ s ρ) v s2) (hk : E C K (pan1 v) [] (backS ρ s s2))
  (hnd : ρ.Nodup:=by simp) (hin : ∀ i ∈ ρ,i < s.length:=by simp) (hlen : ρ.length ≤ s2.length:=by simp) : CT C d (some (fid,vs)) t e s K:=by
 refine .pan (CallPan.sub ρ hnd hin hlen ?_) hk
 have : ∀ L : List Nat,liveS ρ s L = L.map fun i=>renObj ρ ((s[i]?).getD .dead):=by
  intro L;induction L with
  | nil=>rfl
  | cons t r ih=>rw [List.map_cons,← ih];rfl
 rw [← this];exact hc
end Go.Pv
namespace Go.Pv
open Go
def recMode : Option Value → FrameMode
 | none=>.returning
 | some v=>.panicking [{ v:=v,recovered:=false }]
def CallRec (P : Program) (g : FuncId) (r : Option Value) (args : List PV) (s s' : Store) : Prop:=
 ∀ (pub : PHeap) (σ : Sig) (w : World) (cargs : Array Value),Base pub σ s w → RelA pub σ args cargs →
  CallsD P g cargs (recMode r) w fun e u' w'=>(∃ cv,e = .returned cv) ∧ settle u' = .returning ∧ ∃ pub' σ',SR ⟨w,pub,σ,dom s σ⟩ pub' σ' s' w'
theorem rel_conc {pub : PHeap} : ∀ (n : Nat) (v : PV) (c : Value),concP n v = some c → ∀ σ,Rel pub σ v c
 | 0,v,c,h,σ=>by
  cases v <;> simp only [concP,reduceCtorEq,Option.some.injEq] at h <;> (subst h;first | exact .int | exact .bool)
 | n + 1,v,c,h,σ=>by
  cases v <;> simp only [concP,reduceCtorEq,Option.some.injEq] at h <;> first | (subst h;first | exact .int | exact .bool) | skip
  ·rename_i vs
   obtain ⟨l,h1,rfl⟩:=Option.map_eq_some_iff.1 h
   have key : ∀ (vs : List PV) (l : List Value),vs.mapM (concP n) = some l → l.length = vs.length ∧ ∀ (j : Nat) (v : PV) (c : Value),vs[j]? = some v → l[j]? = some c → concP n v = some c:=by
    intro vs
    induction vs with
    | nil=>intro l h;cases h;exact ⟨rfl,fun j v c h=>by simp at h⟩
    | cons a r ih=>
     intro l h
     rw [List.mapM_cons] at h
     obtain ⟨x,hx,h⟩:=Option.bind_eq_some_iff.1 h
     obtain ⟨t,ht,h⟩:=Option.bind_eq_some_iff.1 h
     cases h
     obtain ⟨g1,g2⟩:=ih t ht
     refine ⟨by simp [g1],fun j v c hv hc=>?_⟩
     cases j with
     | zero=>simp at hv hc;subst hv hc;exact hx
     | succ j=>exact g2 j v c (by simpa using hv) (by simpa using hc)
   obtain ⟨g1,g2⟩:=key vs l h1
   exact .agg (by simpa using g1) fun j v c hv hc=>rel_conc n v c (g2 j v c hv (by simpa using hc)) σ
  ·rename_i t v
   obtain ⟨x,h1,rfl⟩:=Option.map_eq_some_iff.1 h
   exact .iface (rel_conc n v x h1 σ)
theorem rel_pan {pub : PHeap} {σ : Sig} {v : PV} {c : Value} (h : panP v = some c) : Rel pub σ v c:=by
 unfold panP at h
 split at h
 ·exact rel_conc _ _ _ h σ
 ·cases h
section
variable {P : Program} {m : Nat}
theorem res_run {C : Ctx} {N : FrN} {pub : PHeap} {σ : Sig} {a : Act} {w : World} {e : AE} {s s' : Store} {v : PV} {fn : Func} {fin : PV → Store → Prop} (hC : ∀ i,m ≤ i → C.sig i = none) (hs : SR C pub σ s w) (he : ER pub σ N (envOf e) a) (hfin : ∀ v1 s1,fin v1 s1 → RetView m v1 s1 v s')
  (h : Sat (xres P (envOf e) s fn.results.toList) fun vs=>fin (retV vs) s) : ∃ cv,(results fn a.tmps).run P w = .ok cv w ∧ ∃ pub' σ',SR C pub' σ' s' w ∧ Rel pub' σ' v cv:=by
 obtain ⟨vs0,hv0,hret⟩:=sat_elim h
 replace hret:=hfin _ _ hret
 obtain ⟨vs,cs,hk,hrel,hrun⟩:=wres_run hs he _ _ (wres_of _ vs0 (fun vs=>RetView m (retV vs) s v s') hv0 hret)
 have hR : (results fn a.tmps).run P w = .ok (if h : cs.toArray.size = 1 then cs.toArray[0] else .tuple cs.toArray) w:=by
  rw [results_eq,Sem.run_bind,Array.mapM_eq_mapM_toList,Sem.run_map,hrun]
  rfl
 have hrv : Rel pub σ (retV vs) (if h : cs.toArray.size = 1 then cs.toArray[0] else .tuple cs.toArray):=by
  have hsz:=hrel.1
  match vs,cs,hrel,hsz with
  | [v],[c],hrel,_=>exact hrel.2 0 v c rfl rfl
  | [],[],hrel,_=>exact .tuple hrel.1 hrel.2
  | v1 :: v2 :: vs,c1 :: c2 :: cs,hrel,_=>simpa [retV] using Rel.tuple hrel.1 hrel.2
 obtain ⟨p,t,h1,h2⟩:=hk _ pub σ w _ hC hs hrv
 exact ⟨_,hR,p,t,h1,h2⟩
end
def recShape : Code → Option (Tmp × Code)
 | .seq (.region _ ops false) z=>match ops.toList with
  | [o]=>match o.op,o.dst,o.guard with
   | .call ⟨.builtin .recover,_,_⟩,some t,none=>some (t,z)
   | _,_,_=>none
  | _=>none
 | _=>none
structure FR (P : Program) (F : FuncId) (C : Program → Nat → WC) (t : Nat) (x : XC) (rs : List ResultVar) (fn : Func) : Prop where
 A : ∃ A,(∀ P m,C P m = ⟨P,m,A⟩) ∧ ((fn.body.bind recShape).map fun p=>chkC fn.ntmps A p.2 && decide (t < fn.ntmps)) = some true
 f : P.funcs[F]? = some fn
 x : ((fn.body.bind recShape).map fun p=>(p.1,lt p.2)) = some (t,x)
 r : fn.results.toList = rs
 m : P.follows .mixedOrders = true
def recV : Option Value → PV → Prop
 | none,rv=>rv = .niliface
 | some v,rv=>panP rv = some v
theorem FR.og {P : Program} {F : FuncId} {C : Program → Nat → WC} {t : Nat} {x : XC} {rs : List ResultVar} {fn : Func} (i : FR P F C t x rs fn) {args : List PV} {r : Option Value} {rv v : PV} {s s' : Store} (hr : recV r rv)
  (h : X (C P s.length) x (updA (argsA 0 args) (some t) rv) s (.fin rs (gcFin s.length v s'))) (hl : Nat.ble args.length fn.ntmps = true:=by exact rfl) : CallRec P F r args s s':=by
 obtain ⟨⟨A,hA,hc⟩,hf,hx,hrs,hm⟩:=i
 obtain ⟨⟨t',z⟩,hb,hxz⟩:=Option.map_eq_some_iff.1 hx
 simp only [Prod.mk.injEq] at hxz
 obtain ⟨rfl,hxz⟩:=hxz
 rw [hb,Option.map_some,Option.some.injEq,Bool.and_eq_true,decide_eq_true_eq] at hc
 obtain ⟨hc,htn⟩:=hc
 obtain ⟨c,hbody,hsh⟩:=Option.bind_eq_some_iff.1 hb
 unfold recShape at hsh
 split at hsh
 ·rename_i id ops z'
  split at hsh
  ·rename_i o hops
   split at hsh
   ·rename_i cargs0 cT t0 ho hd hg
    cases hsh
    unfold X at h
    rw [hA] at h
    intro pub σ w cargs hbase hargs
    refine callsD_of_wpS hf hbody fun c₀ cs hmode=>?_
    have hER:=er_args (k:=fn.ntmps - cargs.size) hargs (Nat.le_of_ble_eq_true hl) rfl
    refine wpS_seq (wpS_region ?_)
    have hsz : ops.size = 1:=by rw [← Array.length_toList,hops];rfl
    have h0 : ops[0]? = some o:=by rw [← Array.getElem?_toList,hops];rfl
    rw [hsz]
    simp only [List.range_succ,List.range_zero,List.nil_append,wpOpsS,h0]
    have hw : ∀ y,Region.wanted o y = true:=fun y=>by simp [Region.wanted,hg]
    rw [if_pos (hw _)]
    have hrun : ∀ a w,(execOp (Act.eval a) o).run P w = .ok .recover w:=fun a w=>by
     simp only [execOp,ho]
     rfl
    rw [hrun]
    have hput : ∀ (cv : Value),Rel pub σ rv cv → ER pub σ (frn fn.ntmps) (envOf (updA (argsA 0 args) (some t') rv)) (Act.put { tmps:=cargs ++ Array.replicate (fn.ntmps - cargs.size) undef,defers:=[] } (some t') cv):=fun cv hcv=>by
     rw [envOf_updA]
     exact hER.put (some t') (fun u hu=>by cases hu;exact frn_mem htn) hcv
    have fin : ∀ (cv : Value) (cs' : List Frame) (u' : FrameMode),Rel pub σ rv cv → cs' = { c₀ with mode := u' } :: cs → settle u' = .returning →
      Exit.thenS (z.wpS P (bodyPostS P fn c₀ cs fun e u' w'=>(∃ cv,e = .returned cv) ∧ settle u' = .returning ∧ ∃ pub' σ',SR ⟨w,pub,σ,dom s σ⟩ pub' σ' s' w')) (bodyPostS P fn c₀ cs fun e u' w'=>(∃ cv,e = .returned cv) ∧ settle u' = .returning ∧ ∃ pub' σ',SR ⟨w,pub,σ,dom s σ⟩ pub' σ' s' w') .normal (Act.put { tmps:=cargs ++ Array.replicate (fn.ntmps - cargs.size) undef,defers:=[] } (some t') cv) cs' w:=by
     intro cv cs' u' hcv hcs hset
     refine wpS_of_wp (wp_mono (wexec_ok (N:=frn fn.ntmps) hm z _ s _ hc (hxz ▸ h) ⟨w,pub,σ,dom s σ⟩ pub σ _ w hbase.sig (SR.start hbase) (hput cv hcv)) ?_)
     rintro x a' w' ⟨E,s0,pub0,σ0,⟨_,e1,s1,hv,hres⟩,hs0,he0⟩
     obtain ⟨pub',σ',hs',he'⟩:=hv _ pub0 σ0 a' w' (frn fn.ntmps) hbase.sig hs0 he0
     have hx : (match x with | .normal | .ret=>True | _=>False) ∧ Sat (xres P (envOf e1) s1 rs) fun vs=>gcFin s.length v s' (retV vs) s1:=by
      cases x <;> first | exact ⟨trivial,hres⟩ | exact hres.elim
     obtain ⟨hx,hres⟩:=hx
     obtain ⟨cv2,hR,p,q,h1,_⟩:=res_run (m:=s.length) (v:=v) (s':=s') hbase.sig hs' he' (fun v1 s1 h=>gcFin_ret h) (hrs ▸ hres)
     have hgoal : a'.defers = [] ∧ ∃ u',cs' = { c₀ with mode:=u' } :: cs ∧ ∃ v,(results fn a'.tmps).run P w' = .ok v w' ∧ (∃ cv,Ending.returned v = .returned cv) ∧ settle u' = .returning ∧ ∃ pub' σ',SR ⟨w,pub,σ,dom s σ⟩ pub' σ' s' w':=
      ⟨he'.defers,u',hcs,_,hR,⟨_,rfl⟩,hset,p,q,h1⟩
     cases x <;> first | exact hgoal | exact hx.elim
    cases r with
    | none=>
     have hrv : rv = .niliface:=hr
     subst hrv
     have h1 : recoverD (c₀ :: cs) = none:=by simp [recoverD,hmode,recMode]
     simp only [h1,hd]
     exact fin .nilIface (c₀ :: cs) .returning .niliface (by rw [show (FrameMode.returning) = c₀.mode from hmode.symm]) rfl
    | some val=>
     have hrv : panP rv = some val:=hr
     have h1 : recoverD (c₀ :: cs) = some (val,{ c₀ with mode:=.panicking [{ v:=val,recovered:=true }] } :: cs):=by simp [recoverD,hmode,recMode]
     simp only [h1,hd]
     exact fin val _ (.panicking [{ v:=val,recovered:=true }]) (rel_pan hrv) rfl rfl
   ·cases hsh
  ·cases hsh
 ·cases hsh
def dfShape : Code → Option (Tmp × FuncId × Array Operand)
 | .region _ ops false=>match ops.toList with
  | [o1,o2]=>match o1.op,o1.dst,o1.guard,o2.op,o2.dst,o2.guard with
   | .makeFunc (.func g) first caps,some t,none,.defer ⟨.value (.tmp t'),args,_⟩,none,none=>if t = t' ∧ first = #[] ∧ args = #[] then some (t,g,caps) else none
   | _,_,_,_,_,_=>none
  | _=>none
 | _=>none
theorem dfShape_some {r : Code} {t : Tmp} {g : FuncId} {caps : Array Operand} (h : dfShape r = some (t,g,caps)) : ∃ id ops o1 o2 T,r = .region id ops false ∧ ops.toList = [o1,o2] ∧ o1.op = .makeFunc (.func g) #[] caps ∧ o1.dst = some t ∧ o1.guard = none ∧ o2.op = .defer ⟨.value (.tmp t),#[],T⟩ ∧ o2.dst = none ∧ o2.guard = none:=by
 cases r <;> simp only [dfShape,reduceCtorEq] at h
 rename_i id ops d
 cases d <;> simp only [reduceCtorEq] at h
 split at h
 ·rename_i o1 o2 hops
  split at h
  ·rename_i g0 first caps0 t0 t1 dargs dT h1 h2 h3 h4 h5 h6
   split at h
   ·rename_i hcond
    obtain ⟨rfl,rfl,rfl⟩:=hcond
    cases h
    exact ⟨id,ops,o1,o2,_,rfl,hops,h1,h2,h3,h4,h5,h6⟩
   ·cases h
  ·cases h
 ·cases h
def cutD : Code → Option (List Code × Code × Code)
 | .seq x y=>match dfShape x with
  | some _=>some ([],x,y)
  | none=>(cutD y).map fun p=>(x :: p.1,p.2)
 | _=>none
def wpPre (P : Program) (Q : Exit → Act → World → Prop) : List Code → (Act → World → Prop) → Act → World → Prop
 | [],k,a,w=>k a w
 | x :: r,k,a,w=>x.wp P (Exit.then (wpPre P Q r k) Q) a w
theorem cut_wp {P : Program} {Q : Exit → Act → World → Prop} : ∀ (c : Code) (pre : List Code) (r z : Code),cutD c = some (pre,r,z) → ∀ (a : Act) (w : World),wpPre P Q pre (fun a w=>r.wp P (Exit.then (fun a w=>z.wp P Q a w) Q) a w) a w → c.wp P Q a w:=by
 intro c
 induction c with
 | seq x y ihx ihy=>
  intro pre r z h a w hw
  unfold cutD at h
  split at h
  ·cases h
   exact wp_seq hw
  ·obtain ⟨⟨p1,p2⟩,h1,h2⟩ := Option.map_eq_some_iff.1 h
   cases h2
   refine wp_seq (wp_mono hw ?_)
   intro e a w hq
   cases e <;> first | exact ihy p1 r z h1 a w hq | exact hq
 | _=>intro pre r z h;simp [cutD] at h
def XL (C : WC) (K : KS) : List XC → (AE → Store → Prop) → AE → Store → Prop
 | [],k,e,s=>k e s
 | x :: r,k,e,s=>X C x e s (.andk (XL C K r k) K)
@[simp] theorem XL_nil {C : WC} {K : KS} {k : AE → Store → Prop} {e : AE} {s : Store} : XL C K [] k e s = k e s:=rfl
@[simp] theorem XL_cons {C : WC} {K : KS} {x : XC} {r : List XC} {k : AE → Store → Prop} {e : AE} {s : Store} : XL C K (x :: r) k e s = X C x e s (.andk (XL C K r k) K):=rfl
def DRec (P : Program) (cl : PV) (r : Option Value) (e : AE) (s : Store) (rs : List ResultVar) (f : PV → Store → Prop) : Prop:=
 ∃ g ys s2,cl = .fn (.func g) [] ys ∧ Enters P g ∧ CallRec P g r ys s s2 ∧ Sat (xres P (envOf e) s2 rs) fun vs=>f (retV vs) s2
def wdf (P : Program) (t : Nat) (rs : List ResultVar) (f : PV → Store → Prop) : Exit → AE → Store → Prop:=fun x e s=>match x with
 | .normal | .ret=>DRec P (envOf e t) none e s rs f
 | .panic [⟨v,false,false⟩]=>DRec P (envOf e t) (some v) e s rs f
 | _=>False
section
variable {P : Program} {t : Nat} {rs : List ResultVar} {f : PV → Store → Prop} {e : AE} {s : Store}
@[simp] theorem wdf_normal : wdf P t rs f .normal e s = DRec P (envOf e t) none e s rs f:=rfl
@[simp] theorem wdf_ret : wdf P t rs f .ret e s = DRec P (envOf e t) none e s rs f:=rfl
@[simp] theorem wdf_pan {v : Value} : wdf P t rs f (pan1 v) e s = DRec P (envOf e t) (some v) e s rs f:=rfl
theorem DRec.of {g : FuncId} {ys : List PV} {r : Option Value} {s2 : Store} [h : EnT P g] (hc : CallRec P g r ys s s2) (hk : FN (xres P (envOf e) s2 rs) f s2) : DRec P (.fn (.func g) [] ys) r e s rs f:=⟨g,ys,s2,rfl,h.h,hc,hk⟩
end
structure FD (P : Program) (F : FuncId) (C : Program → Nat → WC) (xs : List XC) (t : Nat) (g : FuncId) (caps : List Operand) (x : XC) (rs : List ResultVar) (fn : Func) : Prop where
 A : ∃ A,(∀ P m,C P m = ⟨P,m,A⟩) ∧ ((fn.body.bind cutD).map fun p=>p.1.all (chkC fn.ntmps A) && chkC ⟨fn.ntmps,[t]⟩ A p.2.2 && decide (t < fn.ntmps)) = some true
 f : P.funcs[F]? = some fn
 x : ((fn.body.bind cutD).bind fun p=>(dfShape p.2.1).map fun q=>(p.1.map lt,q.1,q.2.1,q.2.2.toList,lt p.2.2)) = some (xs,t,g,caps,x)
 r : fn.results.toList = rs
 m : P.follows .mixedOrders = true
theorem FD.ops {P : Program} {F : FuncId} {C : Program → Nat → WC} {xs : List XC} {t : Nat} {g : FuncId} {caps : List Operand} {x : XC} {rs : List ResultVar} {fn : Func} (i : FD P F C xs t g caps x rs fn) {args : List PV} {v : PV} {s s' : Store} (fin : PV → Store → Prop) (hfin : ∀ v1 s1,fin v1 s1 → RetView s.length v1 s1 v s')
  (h : XL (C P s.length) (.fin rs fin) xs (fun e s1=>X (C P s.length) x (updA e (some t) (.fn (.func g) [] (caps.map (evO (envOf e))))) s1 (.fany (wdf P t rs fin))) (argsA 0 args) s) (hl : Nat.ble args.length fn.ntmps = true:=by exact rfl) : CallOK P F args s v s':=by
 obtain ⟨⟨A,hA,hc⟩,hf,hx,hrs,hm⟩:=i
 obtain ⟨⟨pre,r,z⟩,hb,hx2⟩:=Option.bind_eq_some_iff.1 hx
 obtain ⟨⟨t',g',caps'⟩,hsh,hx3⟩:=Option.map_eq_some_iff.1 hx2
 simp only [Prod.mk.injEq] at hx3
 obtain ⟨hx4,rfl,rfl,hx5,hx6⟩:=hx3
 rw [hb,Option.map_some,Option.some.injEq,Bool.and_eq_true,Bool.and_eq_true,decide_eq_true_eq] at hc
 obtain ⟨⟨hpre,hz⟩,htn⟩:=hc
 obtain ⟨c,hbody,hcut⟩:=Option.bind_eq_some_iff.1 hb
 rw [hA] at h
 subst hx4 hx5 hx6
 intro pub σ w cargs hbase hargs
 refine calls_of_wp_defers hf hbody ?_
 refine cut_wp c pre r z hcut _ _ ?_
 have hER:=er_args (k:=fn.ntmps - cargs.size) hargs (Nat.le_of_ble_eq_true hl) rfl
 have leave : ∀ (e : AE) (s1 : Store) (pub' : PHeap) (σ' : Sig) (a' : Act) (w' : World) (N : FrN),(Sat (xres P (envOf e) s1 rs) fun vs => fin (retV vs) s1) → SR ⟨w,pub,σ,dom s σ⟩ pub' σ' s1 w' → ER pub' σ' N (envOf e) a' →
   Leaves P fn a'.tmps (fun e w'=>∃ cv pub' σ',e = .returned cv ∧ SR ⟨w,pub,σ,dom s σ⟩ pub' σ' s' w' ∧ Rel pub' σ' v cv) [] .returning w':=by
  intro e s1 pub' σ' a' w' N hres hs' he'
  obtain ⟨cv2,hR,p,q,h1,h2⟩:=res_run (m:=s.length) (v:=v) (s':=s') hbase.sig hs' he' hfin (hrs ▸ hres)
  exact ⟨cv2,hR,cv2,p,q,rfl,h1,h2⟩
 have key : ∀ (l : List Code) (e : AE) (s0 : Store) (pub0 : PHeap) (σ0 : Sig) (a0 : Act) (w0 : World),l.all (chkC fn.ntmps A) = true →
   XL ⟨P,s.length,A⟩ (.fin rs fin) (l.map lt) (fun e s1=>X ⟨P,s.length,A⟩ (lt z) (updA e (some t') (.fn (.func g') [] (caps'.toList.map (evO (envOf e))))) s1 (.fany (wdf P t' rs fin))) e s0 → SR ⟨w,pub,σ,dom s σ⟩ pub0 σ0 s0 w0 → ER pub0 σ0 (frn fn.ntmps) (envOf e) a0 →
   wpPre P (bodyPostD P fn fun e w'=>∃ cv pub' σ',e = .returned cv ∧ SR ⟨w,pub,σ,dom s σ⟩ pub' σ' s' w' ∧ Rel pub' σ' v cv) l (fun a w_1=>r.wp P (Exit.then (fun a w_2=>z.wp P (bodyPostD P fn fun e w'=>∃ cv pub' σ',e = .returned cv ∧ SR ⟨w,pub,σ,dom s σ⟩ pub' σ' s' w' ∧ Rel pub' σ' v cv) a w_2) (bodyPostD P fn fun e w'=>∃ cv pub' σ',e = .returned cv ∧ SR ⟨w,pub,σ,dom s σ⟩ pub' σ' s' w' ∧ Rel pub' σ' v cv)) a w_1) a0 w0:=by
  intro l
  induction l with
  | nil=>
   intro e s0 pub0 σ0 a0 w0 _ h hs he
   replace h : X ⟨P,s.length,A⟩ (lt z) (updA e (some t') (.fn (.func g') [] (caps'.toList.map (evO (envOf e))))) s0 (.fany (wdf P t' rs fin)):=h
   show r.wp P _ a0 w0
   obtain ⟨id,ops,o1,o2,dT,rfl,hops,h1,h2,h3,h4,h5,h6⟩:=dfShape_some hsh
   refine wp_region ?_
   have hsz : ops.size = 2:=by rw [← Array.length_toList,hops];rfl
   have e0 : ops[0]? = some o1:=by rw [← Array.getElem?_toList,hops];rfl
   have e1 : ops[1]? = some o2:=by rw [← Array.getElem?_toList,hops];rfl
   rw [hsz]
   simp only [List.range_succ,List.range_zero,List.nil_append,List.cons_append,wpOps,e0,e1]
   have hw1 : ∀ y,Region.wanted o1 y = true:=fun y=>by simp [Region.wanted,h3]
   have hw2 : ∀ y,Region.wanted o2 y = true:=fun y=>by simp [Region.wanted,h6]
   rw [if_pos (hw1 _)]
   refine .inl ?_
   have hfr : Rel pub0 σ0 (.fn (.func g') [] (caps'.toList.map (evO (envOf e)))) (.func (.func g') #[] (caps'.map a0.eval)):=
    .fn rfl (fun j v c h=>by simp at h) (map_rel he caps').1 (map_rel he caps').2
   have hrun1 : (execOp a0.eval o1).run P w0 = .ok (.value (.func (.func g') #[] (caps'.map a0.eval))) w0:=by simp [execOp,h1,Instr.makeFunc]
   unfold Oper.wp
   rw [hrun1]
   simp only [Oper.upon,h2]
   rw [if_pos (hw2 _)]
   refine .inl ?_
   have hput:=he.put (some t') (fun u hu=>by cases hu;exact frn_mem htn) hfr
   rw [← envOf_updA] at hput
   generalize hfv : (Value.func (.func g') #[] (caps'.map a0.eval)) = fv at *
   have hget : (a0.put (some t') fv).tmps.getD t' undef = fv:=by
    have:=he.size
    simp [Act.put,Array.getD,this,htn]
   have hrun2 : (execOp (a0.put (some t') fv).eval o2).run P w0 = .ok (.defer { target:=.fn (.func g') (caps'.map a0.eval),args:=#[] }) w0:=by
    simp only [execOp,h4,Go.resolve]
    have : (a0.put (some t') fv).eval (.tmp t') = fv:=hget
    rw [this,← hfv]
    simp [Deferred.ofValue]
   rw [hrun2]
   simp only [Oper.upon,h5,Act.put]
   show z.wp P _ _ _
   have hdef : (a0.put (some t') fv).defers = []:=by have:=hput.defers;simpa using this
   have hN : ER pub0 σ0 ⟨fn.ntmps,[{ target:=.fn (.func g') (caps'.map a0.eval),args:=#[] }],[(t',fv)]⟩ (envOf (updA e (some t') (.fn (.func g') [] (caps'.toList.map (evO (envOf e)))))) { (a0.put (some t') fv) with defers:=[{ target:=.fn (.func g') (caps'.map a0.eval),args:=#[] }] }:=
    ⟨hput.size,rfl,fun u v hv=>by simp only [List.mem_singleton,Prod.mk.injEq] at hv;obtain ⟨rfl,rfl⟩:=hv;exact hget,hput.rel⟩
   have hadef : a0.defers = []:=he.defers
   have hact : ({ (a0.put (some t') fv) with defers:=[{ target:=.fn (.func g') (caps'.map a0.eval),args:=#[] }] } : Act) = { tmps:=a0.tmps.setIfInBounds t' fv,defers:={ target:=.fn (.func g') (caps'.map a0.eval),args:=#[] } :: a0.defers }:=by rw [hadef];rfl
   rw [← hact]
   refine wp_mono (wexec_ok (N:=⟨fn.ntmps,[{ target:=.fn (.func g') (caps'.map a0.eval),args:=#[] }],[(t',fv)]⟩) hm z _ s0 _ hz h ⟨w,pub,σ,dom s σ⟩ pub0 σ0 _ w0 hbase.sig hs hN) ?_
   rintro x a' w' ⟨E,s2,pub2,σ2,⟨_,e2,s3,hv,hres⟩,hs2,he2⟩
   obtain ⟨pub',σ',hs',he'⟩:=hv _ pub2 σ2 a' w' _ hbase.sig hs2 he2
   have hrec : ∀ r0,DRec P (envOf e2 t') r0 e2 s3 rs fin → Leaves P fn a'.tmps (fun e w'=>∃ cv pub' σ',e = .returned cv ∧ SR ⟨w,pub,σ,dom s σ⟩ pub' σ' s' w' ∧ Rel pub' σ' v cv) a'.defers (recMode r0) w':=by
    rintro r0 ⟨g2,ys,s4,hcl,hen,hcr,hfinal⟩
    rw [he'.defers]
    have hrel:=he'.rel t'
    rw [hcl,he'.kept t' fv (by simp),← hfv] at hrel
    cases hrel with
    | fn hsx hrx hsy hry=>
    refine leaves_cons (by cases r0 <;> simp [recMode]) (f:=g') (args:=caps'.map a0.eval) (by simp only [invoke];rw [Array.empty_append];exact hen _ w') ?_
    refine CallsD.mono (hcr pub' σ' w' _ hs'.toBase ⟨hsy,hry⟩) ?_
    rintro en u' w5 ⟨⟨cv,rfl⟩,hset,pub5,σ5,hs5⟩
    show Leaves P fn a'.tmps _ [] (settle u') w5
    rw [hset]
    exact leave e2 s4 pub5 σ5 a' w5 _ hfinal (hs'.trans hs5) (he'.mono hs5.ple hs5.sle)
   have hres2 : wdf P t' rs fin x e2 s3:=hres
   unfold wdf at hres2
   split at hres2
   ·exact hrec none hres2
   ·exact hrec none hres2
   ·exact hrec (some _) hres2
   ·exact hres2.elim
  | cons x l ih=>
   intro e s0 pub0 σ0 a0 w0 hl h hs he
   rw [List.all_cons,Bool.and_eq_true] at hl
   replace h : X ⟨P,s.length,A⟩ (lt x) e s0 (.andk (XL ⟨P,s.length,A⟩ (.fin rs fin) (l.map lt) (fun e s1=>X ⟨P,s.length,A⟩ (lt z) (updA e (some t') (.fn (.func g') [] (caps'.toList.map (evO (envOf e))))) s1 (.fany (wdf P t' rs fin)))) (.fin rs fin)):=h
   show x.wp P _ a0 w0
   refine wp_mono (wexec_ok (N:=frn fn.ntmps) hm x _ s0 _ hl.1 h ⟨w,pub,σ,dom s σ⟩ pub0 σ0 _ w0 hbase.sig hs he) ?_
   rintro y a' w' ⟨E,s2,pub2,σ2,⟨_,e2,s3,hv,hres⟩,hs2,he2⟩
   obtain ⟨pub',σ',hs',he'⟩:=hv _ pub2 σ2 a' w' _ hbase.sig hs2 he2
   cases y with
   | normal=>exact ih e2 s3 pub' σ' a' w' hl.2 hres hs' he'
   | ret=>
    show Leaves P fn a'.tmps _ a'.defers .returning w'
    rw [he'.defers]
    exact leave e2 s3 pub' σ' a' w' _ hres hs' he'
   | exit i=>exact hres.elim
   | goto l=>exact hres.elim
   | panic ch=>exact hres.elim
   | outgrown=>exact hres.elim
 exact key pre (argsA 0 args) s pub σ _ w hpre h (SR.start hbase) hER
theorem FD.op {P : Program} {F : FuncId} {C : Program → Nat → WC} {xs : List XC} {t : Nat} {g : FuncId} {caps : List Operand} {x : XC} {rs : List ResultVar} {fn : Func} (i : FD P F C xs t g caps x rs fn) {args : List PV} {v : PV}
  (h : XL (C P 0) (.fin rs fun v1 s1=>deref s1 6 v1 = v) xs (fun e s1=>X (C P 0) x (updA e (some t) (.fn (.func g) [] (caps.map (evO (envOf e))))) s1 (.fany (wdf P t rs fun v1 s1=>deref s1 6 v1 = v))) (argsA 0 args) []) (hl : Nat.ble args.length fn.ntmps = true:=by exact rfl) : CallOK P F args [] v []:=
 FD.ops i _ (fun v1 s1 h=>RetView.done 6 h) h hl
theorem CallRec.sub {P : Program} {f : FuncId} {args : List PV} {r : Option Value} {t s0' : Store} (ρ : List Nat) (hnd : ρ.Nodup) (hin : ∀ i ∈ ρ,i < t.length) (hlen' : ρ.length ≤ s0'.length)
  (h : CallRec P f r (args.map (renN ρ 4)) (ρ.map fun i=>renObj ρ ((t[i]?).getD .dead)) s0') : CallRec P f r args t (backS ρ t s0'):=by
 intro pub σ w cargs hbase hargs
 obtain ⟨hb0,hal⟩:=ren_base (s0:=ρ.map fun i=>renObj ρ ((t[i]?).getD .dead)) hbase hnd (by simp) (by
  intro j o' hj
  rw [List.getElem?_map,Option.map_eq_some_iff] at hj
  obtain ⟨i,hi,rfl⟩:=hj
  have hil:=hin i (List.mem_of_getElem? hi)
  refine ⟨i,t[i],hi,List.getElem?_eq_getElem hil,?_⟩
  rw [List.getElem?_eq_getElem hil];exact renObj_ren ρ _)
 have hargs0 : RelA pub (σ.ren ρ) (args.map (renN ρ 4)) cargs:=⟨by simpa using hargs.1,fun j x y hx hy=>by
  rw [List.getElem?_map,Option.map_eq_some_iff] at hx
  obtain ⟨u,hu,rfl⟩:=hx
  exact (renN_ren ρ 4 u).rel (hargs.2 j u y hu hy)⟩
 refine CallsD.mono (h pub (σ.ren ρ) w cargs hb0 hargs0) ?_
 rintro en u' w' ⟨h1,h2,pub',σ0',hs'⟩
 obtain ⟨hs2,hσ⟩:=SR.back hbase hnd hin (by simp) hlen' hal hs' hs'.ple hs'.pubIn (fun b hb hn=>(hs'.frame b hb hn).2) hs'.obj
 exact ⟨h1,h2,pub',_,hs2⟩
theorem DRec.sub {P : Program} {rs : List ResultVar} {f : PV → Store → Prop} {e : AE} {s s2 : Store} {g : FuncId} {ys : List PV} {r : Option Value} [h : EnT P g] (ρ : List Nat) (hc : CallRec P g r (ys.map (renN ρ 4)) (liveS ρ s ρ) s2) (hk : FN (xres P (envOf e) (backS ρ s s2) rs) f (backS ρ s s2))
  (hnd : ρ.Nodup:=by simp) (hin : ∀ i ∈ ρ,i < s.length:=by simp) (hlen : ρ.length ≤ s2.length:=by simp) : DRec P (.fn (.func g) [] ys) r e s rs f:=by
 refine .of (CallRec.sub ρ hnd hin hlen ?_) hk
 have : ∀ L : List Nat,liveS ρ s L = L.map fun i=>renObj ρ ((s[i]?).getD .dead):=by
  intro L;induction L with
  | nil=>rfl
  | cons t r ih=>rw [List.map_cons,← ih];rfl
 rw [← this];exact hc
def sndX : XC → XC
 | .seq _ b=>b
 | x=>x
def preX : Nat → XC → List XC
 | 0,_=>[]
 | n + 1,.seq a b=>a :: preX n b
 | _ + 1,_=>[]
def dropX : Nat → XC → XC
 | 0,x=>x
 | n + 1,.seq _ b=>dropX n b
 | _ + 1,x=>x
theorem frA {P : Program} {F : FuncId} {t : Nat} {x : XC} {rs : List ResultVar} {fn : Func} {A : Ann} (hf : P.funcs[F]? = some fn) (hm : P.follows .mixedOrders = true) (hc : ((fn.body.bind recShape).map fun p=>chkC fn.ntmps A p.2 && decide (t < fn.ntmps)) = some true) (hx : ((fn.body.bind recShape).map fun p=>(p.1,lt p.2)) = some (t,x)) (hr : fn.results.toList = rs) : FR P F (cxA A) t x rs fn:=
 ⟨⟨A,fun _ _=>rfl,hc⟩,hf,hx,hr,hm⟩
theorem FD.os {P : Program} {F : FuncId} {C : Program → Nat → WC} {xs : List XC} {t : Nat} {g : FuncId} {caps : List Operand} {x : XC} {rs : List ResultVar} {fn : Func} (i : FD P F C xs t g caps x rs fn) {args : List PV} {v : PV}
  (h : XL (C P 0) (.fin rs fun v1 s1=>softV (deref s1 6 v1) = v) xs (fun e s1=>X (C P 0) x (updA e (some t) (.fn (.func g) [] (caps.map (evO (envOf e))))) s1 (.fany (wdf P t rs fun v1 s1=>softV (deref s1 6 v1) = v))) (argsA 0 args) []) (hl : Nat.ble args.length fn.ntmps = true:=by exact rfl) : CallOK P F args [] v []:=
 FD.ops i _ (fun v1 s1 h=>RetView.softV h) h hl
end Go.Pv
namespace Go.Proofs.Ytbimioonhfhflaa
open Go Go.Pv
def rd (t : ByteArray) (i : Nat) : PObj:=.rows 2 [[.str t,.int .i64 (i : Int)]]
attribute [simp] rd
def isBl (c : UInt8) : Bool:=c.toNat == 32 || c.toNat == 10
def blk (t : ByteArray) : Nat → Nat → Nat
 | 0,i=>i
 | n + 1,i=>if h : i < t.size then (if isBl t[i] = true then blk t n (i + 1) else i) else i
def hp (t : ByteArray) (i : Nat) (w : ByteArray) : Bool:=decide (i + w.size ≤ t.size ∧ t.extract i (i + w.size) = w)
end Go.Proofs.Ytbimioonhfhflaa
