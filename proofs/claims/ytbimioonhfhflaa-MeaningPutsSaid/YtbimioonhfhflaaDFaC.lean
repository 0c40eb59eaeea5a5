import Derived.Test.YtbimioonhfhflaaDFpA
import Derived.Test.YtbimioonhfhflaaDTy
set_option linter.unusedVariables false
set_option linter.unusedSimpArgs false
set_option maxRecDepth 100000
set_option maxHeartbeats 4000000
namespace Go.Pv
open Go
theorem tryRecover_normal {fr : Frame} (h : fr.kind = .normal) (cs : List Frame) : tryRecover fr cs = none:=by
 unfold tryRecover
 rw [h]
theorem calls_of_recN {P : Program} {f : FuncId} {fn : Func} {z : Code} {id : Nat} {ops : Array Oper} {o : Oper} {t : Tmp} {args : Array Value} {w : World} {R : Ending → World → Prop}
  (hf : P.funcs[f]? = some fn) (hb : fn.body = some (.seq (.region id ops false) z)) (hops : ops.toList = [o]) (hrun : ∀ a w,(execOp (Act.eval a) o).run P w = .ok .recover w) (hd : o.dst = some t) (hg : o.guard = none)
  (h : z.wp P (bodyPost P fn R) (Act.put { tmps:=args ++ Array.replicate (fn.ntmps - args.size) undef,defers:=[] } (some t) .nilIface) w) : Calls P f args w R:=by
 intro cs
 let b : Frame:={ (default : Frame) with fn:=f,kind:=.normal }
 generalize ha0 : ({ tmps:=args ++ Array.replicate (fn.ntmps - args.size) undef,defers:=[] } : Act) = a0 at *
 have henter : Frame.enter P f args .normal = b.at a0 [.code (.seq (.region id ops false) z)]:=by
  subst ha0
  simp [Frame.enter,Frame.at,hf,hb,b]
 have hsz : ops.size = 1:=by rw [← Array.length_toList,hops];rfl
 have h0 : ops[0]? = some o:=by rw [← Array.getElem?_toList,hops];rfl
 have hw : Region.wanted o (yielded ops a0.tmps) = true:=by simp [Region.wanted,hg]
 have hgo:=stepG_op (P:=P) (b:=b) (k:=[.code z]) (cs:=cs) (w:=w) (rest:=[]) h0 hw
 have hfin : ∀ v,(b.at a0 (.inRegion ops [0] :: [.code z])).finish v = b.at (a0.put o.dst v) (.inRegion ops [] :: [.code z]):=by
  intro v;rw [Frame.finish_at,h0];rfl
 have htr : tryRecover (b.at a0 (.inRegion ops [0] :: [.code z])) cs = none:=tryRecover_normal rfl cs
 have s3 : step P (lone (b.at a0 (.inRegion ops [0] :: [.code z])) cs w) = .next (lone (b.at (a0.put (some t) .nilIface) (.inRegion ops [] :: [.code z])) cs w):=by
  refine step_lone_go ?_
  rw [hgo,← hd,← hfin]
  simp only [Frame.at] at htr ⊢
  simp [stepG.apply,hrun,htr]
 obtain ⟨e,a',w',hq,harr⟩:=h b [] cs
 have hsteps : Steps P (lone (Frame.enter P f args .normal) cs w) (lone (b.at (a0.put (some t) .nilIface) [.code z]) cs w):=by
  rw [henter]
  refine Steps.trans (.one step_seq) (Steps.trans (.one step_region) ?_)
  rw [hsz]
  exact Steps.trans (.one s3) (.one step_region_end)
 replace harr:=Arrives.of_steps hsteps harr
 cases e with
 | normal=>
  obtain ⟨hd,v,hr,hR⟩:=hq
  exact ⟨.returned v,w',_,hR,Steps.trans harr (.one step_end),rfl,rfl,hd,rfl,fn,hf,hr⟩
 | ret=>
  obtain ⟨hd,v,hr,hR⟩:=hq
  obtain ⟨todo,hs⟩:=harr
  exact ⟨.returned v,w',_,hR,hs,rfl,rfl,hd,rfl,fn,hf,hr⟩
 | panic chain=>
  obtain ⟨hd,hR⟩:=hq
  obtain ⟨todo,hs⟩:=harr
  exact ⟨.panicked chain,w',_,hR,hs,rfl,rfl,hd,fn,hf⟩
 | exit id=>exact hq.elim
 | goto l=>exact hq.elim
 | outgrown=>exact ⟨.outgrown,w',b,hq,harr.resolve_left (by simp [b]),rfl,trivial⟩
theorem FR.plain {P : Program} {F : FuncId} {C : Program → Nat → WC} {t : Nat} {x : XC} {rs : List ResultVar} {fn : Func} (i : FR P F C t x rs fn) {args : List PV} {v : PV} {s s' : Store}
  (h : X (C P s.length) x (updA (argsA 0 args) (some t) .niliface) s (.fin rs (gcFin s.length v s'))) (hl : Nat.ble args.length fn.ntmps = true:=by exact rfl) : CallOK P F args s v s':=by
 obtain ⟨⟨A,hA,hc⟩,hf,hx,hrs,hm⟩:=i
 obtain ⟨⟨t',z⟩,hb,hxz⟩:=Option.map_eq_some_iff.1 hx
 simp only [Prod.mk.injEq] at hxz
 obtain ⟨rfl,hxz⟩:=hxz
 rw [hb,Option.map_some,Option.some.injEq,Bool.and_eq_true,decide_eq_true_eq] at hc
 obtain ⟨hc,htn⟩:=hc
 obtain ⟨c,hbody,hsh⟩:=Option.bind_eq_some_iff.1 hb
 unfold recShape at hsh
 split at hsh
 ·rename_i id ops z'
  split at hsh
  ·rename_i o hops
   split at hsh
   ·rename_i cargs0 cT t0 ho hd hg
    cases hsh
    unfold X at h
    rw [hA] at h
    intro pub σ w cargs hbase hargs
    have hER:=er_args (k:=fn.ntmps - cargs.size) hargs (Nat.le_of_ble_eq_true hl) rfl
    have hrun : ∀ a w,(execOp (Act.eval a) o).run P w = .ok .recover w:=fun a w=>by
     simp only [execOp,ho]
     rfl
    refine calls_of_recN hf hbody hops hrun hd hg ?_
    have hput : ER pub σ (frn fn.ntmps) (envOf (updA (argsA 0 args) (some t') .niliface)) (Act.put { tmps:=cargs ++ Array.replicate (fn.ntmps - cargs.size) undef,defers:=[] } (some t') .nilIface):=by
     rw [envOf_updA]
     exact hER.put (some t') (fun u hu=>by cases hu;exact frn_mem htn) .niliface
    refine wp_mono (wexec_ok (N:=frn fn.ntmps) hm z _ s _ hc (hxz ▸ h) ⟨w,pub,σ,dom s σ⟩ pub σ _ w hbase.sig (SR.start hbase) hput) ?_
    rintro x a' w' ⟨E,s0,pub0,σ0,⟨_,e1,s1,hv,hres⟩,hs0,he0⟩
    obtain ⟨pub',σ',hs',he'⟩:=hv _ pub0 σ0 a' w' (frn fn.ntmps) hbase.sig hs0 he0
    have hx : (match x with | .normal | .ret=>True | _=>False) ∧ Sat (xres P (envOf e1) s1 rs) fun vs=>gcFin s.length v s' (retV vs) s1:=by
     cases x <;> first | exact ⟨trivial,hres⟩ | exact hres.elim
    obtain ⟨hx,hres⟩:=hx
    obtain ⟨cv2,hR,p,q,h1,h2⟩:=res_run (m:=s.length) (v:=v) (s':=s') hbase.sig hs' he' (fun v1 s1 h=>gcFin_ret h) (hrs ▸ hres)
    have hgoal : a'.defers = [] ∧ ∃ v0,(results fn a'.tmps).run P w' = .ok v0 w' ∧ ∃ cv pub' σ',Ending.returned v0 = .returned cv ∧ SR ⟨w,pub,σ,dom s σ⟩ pub' σ' s' w' ∧ Rel pub' σ' v cv:=
     ⟨he'.defers,_,hR,_,p,q,rfl,h1,h2⟩
    cases x <;> first | exact hgoal | exact hx.elim
   ·cases hsh
  ·cases hsh
 ·cases hsh
def dnShape : Code → Option (Tmp × FuncId)
 | .region _ ops false=>match ops.toList with
  | [o]=>match o.op,o.dst,o.guard with
   | .defer ⟨.value (.func g),args,_⟩,none,none=>match args.toList with
    | [.tmp t]=>some (t,g)
    | _=>none
   | _,_,_=>none
  | _=>none
 | _=>none
theorem dnShape_some {r : Code} {t : Tmp} {g : FuncId} (h : dnShape r = some (t,g)) : ∃ id ops o T,r = .region id ops false ∧ ops.toList = [o] ∧ o.op = .defer ⟨.value (.func g),#[.tmp t],T⟩ ∧ o.dst = none ∧ o.guard = none:=by
 cases r <;> simp only [dnShape,reduceCtorEq] at h
 rename_i id ops d
 cases d <;> simp only [reduceCtorEq] at h
 split at h
 ·rename_i o hops
  split at h
  ·rename_i g0 dargs dT h1 h2 h3
   split at h
   ·rename_i t0 hargs
    cases h
    exact ⟨id,ops,o,_,rfl,hops,by rw [h1];congr 2;exact Array.toList_inj.1 hargs,h2,h3⟩
   ·cases h
  ·cases h
 ·cases h
def cutN : Code → Option (List Code × Code × Code)
 | .seq x y=>match dnShape x with
  | some _=>some ([],x,y)
  | none=>(cutN y).map fun p=>(x :: p.1,p.2)
 | _=>none
theorem cutN_wp {P : Program} {Q : Exit → Act → World → Prop} : ∀ (c : Code) (pre : List Code) (r z : Code),cutN c = some (pre,r,z) → ∀ (a : Act) (w : World),wpPre P Q pre (fun a w=>r.wp P (Exit.then (fun a w=>z.wp P Q a w) Q) a w) a w → c.wp P Q a w:=by
 intro c
 induction c with
 | seq x y ihx ihy=>
  intro pre r z h a w hw
  unfold cutN at h
  split at h
  ·cases h
   exact wp_seq hw
  ·obtain ⟨⟨p1,p2⟩,h1,h2⟩ := Option.map_eq_some_iff.1 h
   cases h2
   refine wp_seq (wp_mono hw ?_)
   intro e a w hq
   cases e <;> first | exact ihy p1 r z h1 a w hq | exact hq
 | _=>intro pre r z h;simp [cutN] at h
def DRecN (P : Program) (g : FuncId) (y : PV) (r : Option Value) (e : AE) (s : Store) (rs : List ResultVar) (f : PV → Store → Prop) : Prop:=
 ∃ s2,Enters P g ∧ CallRec P g r [y] s s2 ∧ Sat (xres P (envOf e) s2 rs) fun vs=>f (retV vs) s2
def wdn (P : Program) (g : FuncId) (t : Nat) (rs : List ResultVar) (f : PV → Store → Prop) : Exit → AE → Store → Prop:=fun x e s=>match x with
 | .normal | .ret=>DRecN P g (envOf e t) none e s rs f
 | .panic [⟨v,false,false⟩]=>DRecN P g (envOf e t) (some v) e s rs f
 | _=>False
section
variable {P : Program} {g : FuncId} {t : Nat} {rs : List ResultVar} {f : PV → Store → Prop} {e : AE} {s : Store}
@[simp] theorem wdn_normal : wdn P g t rs f .normal e s = DRecN P g (envOf e t) none e s rs f:=rfl
@[simp] theorem wdn_ret : wdn P g t rs f .ret e s = DRecN P g (envOf e t) none e s rs f:=rfl
@[simp] theorem wdn_pan {v : Value} : wdn P g t rs f (pan1 v) e s = DRecN P g (envOf e t) (some v) e s rs f:=rfl
theorem DRecN.sub {y : PV} {r : Option Value} {s2 : Store} [h : EnT P g] (ρ : List Nat) (hc : CallRec P g r [renN ρ 4 y] (liveS ρ s ρ) s2) (hk : FN (xres P (envOf e) (backS ρ s s2) rs) f (backS ρ s s2))
  (hnd : ρ.Nodup:=by simp) (hin : ∀ i ∈ ρ,i < s.length:=by simp) (hlen : ρ.length ≤ s2.length:=by simp) : DRecN P g y r e s rs f:=by
 refine ⟨_,h.h,CallRec.sub ρ hnd hin hlen ?_,hk⟩
 have : ∀ L : List Nat,liveS ρ s L = L.map fun i=>renObj ρ ((s[i]?).getD .dead):=by
  intro L;induction L with
  | nil=>rfl
  | cons t r ih=>rw [List.map_cons,← ih];rfl
 rw [← this];exact hc
end
structure FDN (P : Program) (F : FuncId) (C : Program → Nat → WC) (xs : List XC) (t : Nat) (g : FuncId) (x : XC) (rs : List ResultVar) (fn : Func) : Prop where
 A : ∃ A,(∀ P m,C P m = ⟨P,m,A⟩) ∧ ((fn.body.bind cutN).map fun p=>p.1.all (chkC fn.ntmps A) && chkC ⟨fn.ntmps,[t]⟩ A p.2.2 && decide (t < fn.ntmps)) = some true
 f : P.funcs[F]? = some fn
 x : ((fn.body.bind cutN).bind fun p=>(dnShape p.2.1).map fun q=>(p.1.map lt,q.1,q.2,lt p.2.2)) = some (xs,t,g,x)
 r : fn.results.toList = rs
 m : P.follows .mixedOrders = true
theorem FDN.ops {P : Program} {F : FuncId} {C : Program → Nat → WC} {xs : List XC} {t : Nat} {g : FuncId} {x : XC} {rs : List ResultVar} {fn : Func} (i : FDN P F C xs t g x rs fn) {args : List PV} {v : PV} {s s' : Store} (fin : PV → Store → Prop) (hfin : ∀ v1 s1,fin v1 s1 → RetView s.length v1 s1 v s')
  (h : XL (C P s.length) (.fin rs fin) xs (fun e s1=>X (C P s.length) x e s1 (.fany (wdn P g t rs fin))) (argsA 0 args) s) (hl : Nat.ble args.length fn.ntmps = true:=by exact rfl) : CallOK P F args s v s':=by
 obtain ⟨⟨A,hA,hc⟩,hf,hx,hrs,hm⟩:=i
 obtain ⟨⟨pre,r,z⟩,hb,hx2⟩:=Option.bind_eq_some_iff.1 hx
 obtain ⟨⟨t',g'⟩,hsh,hx3⟩:=Option.map_eq_some_iff.1 hx2
 simp only [Prod.mk.injEq] at hx3
 obtain ⟨hx4,rfl,rfl,hx6⟩:=hx3
 rw [hb,Option.map_some,Option.some.injEq,Bool.and_eq_true,Bool.and_eq_true,decide_eq_true_eq] at hc
 obtain ⟨⟨hpre,hz⟩,htn⟩:=hc
 obtain ⟨c,hbody,hcut⟩:=Option.bind_eq_some_iff.1 hb
 rw [hA] at h
 subst hx4 hx6
 intro pub σ w cargs hbase hargs
 refine calls_of_wp_defers hf hbody ?_
 refine cutN_wp c pre r z hcut _ _ ?_
 have hER:=er_args (k:=fn.ntmps - cargs.size) hargs (Nat.le_of_ble_eq_true hl) rfl
 have leave : ∀ (e : AE) (s1 : Store) (pub' : PHeap) (σ' : Sig) (a' : Act) (w' : World) (N : FrN),(Sat (xres P (envOf e) s1 rs) fun vs => fin (retV vs) s1) → SR ⟨w,pub,σ,dom s σ⟩ pub' σ' s1 w' → ER pub' σ' N (envOf e) a' →
   Leaves P fn a'.tmps (fun e w'=>∃ cv pub' σ',e = .returned cv ∧ SR ⟨w,pub,σ,dom s σ⟩ pub' σ' s' w' ∧ Rel pub' σ' v cv) [] .returning w':=by
  intro e s1 pub' σ' a' w' N hres hs' he'
  obtain ⟨cv2,hR,p,q,h1,h2⟩:=res_run (m:=s.length) (v:=v) (s':=s') hbase.sig hs' he' hfin (hrs ▸ hres)
  exact ⟨cv2,hR,cv2,p,q,rfl,h1,h2⟩
 have key : ∀ (l : List Code) (e : AE) (s0 : Store) (pub0 : PHeap) (σ0 : Sig) (a0 : Act) (w0 : World),l.all (chkC fn.ntmps A) = true →
   XL ⟨P,s.length,A⟩ (.fin rs fin) (l.map lt) (fun e s1=>X ⟨P,s.length,A⟩ (lt z) e s1 (.fany (wdn P g' t' rs fin))) e s0 → SR ⟨w,pub,σ,dom s σ⟩ pub0 σ0 s0 w0 → ER pub0 σ0 (frn fn.ntmps) (envOf e) a0 →
   wpPre P (bodyPostD P fn fun e w'=>∃ cv pub' σ',e = .returned cv ∧ SR ⟨w,pub,σ,dom s σ⟩ pub' σ' s' w' ∧ Rel pub' σ' v cv) l (fun a w_1=>r.wp P (Exit.then (fun a w_2=>z.wp P (bodyPostD P fn fun e w'=>∃ cv pub' σ',e = .returned cv ∧ SR ⟨w,pub,σ,dom s σ⟩ pub' σ' s' w' ∧ Rel pub' σ' v cv) a w_2) (bodyPostD P fn fun e w'=>∃ cv pub' σ',e = .returned cv ∧ SR ⟨w,pub,σ,dom s σ⟩ pub' σ' s' w' ∧ Rel pub' σ' v cv)) a w_1) a0 w0:=by
  intro l
  induction l with
  | nil=>
   intro e s0 pub0 σ0 a0 w0 _ h hs he
   replace h : X ⟨P,s.length,A⟩ (lt z) e s0 (.fany (wdn P g' t' rs fin)):=h
   show r.wp P _ a0 w0
   obtain ⟨id,ops,o1,dT,rfl,hops,h1,h2,h3⟩:=dnShape_some hsh
   refine wp_region ?_
   have hsz : ops.size = 1:=by rw [← Array.length_toList,hops];rfl
   have e0 : ops[0]? = some o1:=by rw [← Array.getElem?_toList,hops];rfl
   rw [hsz]
   simp only [List.range_succ,List.range_zero,List.nil_append,wpOps,e0]
   have hw1 : ∀ y,Region.wanted o1 y = true:=fun y=>by simp [Region.wanted,h3]
   rw [if_pos (hw1 _)]
   refine .inl ?_
   obtain ⟨fv,hfv⟩ : ∃ fv,a0.tmps.getD t' undef = fv:=⟨_,rfl⟩
   have hfr : Rel pub0 σ0 (envOf e t') fv:=hfv ▸ he.rel t'
   have hrun1 : (execOp a0.eval o1).run P w0 = .ok (.defer { target:=.fn (.func g') #[],args:=#[fv] }) w0:=by
    have hev : a0.eval (.tmp t') = fv:=hfv
    simp only [execOp,h1,Go.resolve]
    have : a0.eval (.func g') = .func (.func g') #[] #[]:=rfl
    rw [this]
    simp [Deferred.ofValue,hev]
   unfold Oper.wp
   rw [hrun1]
   simp only [Oper.upon,h2,Act.put]
   show z.wp P _ _ _
   have hdef : a0.defers = []:=he.defers
   have hN : ER pub0 σ0 ⟨fn.ntmps,[{ target:=.fn (.func g') #[],args:=#[fv] }],[(t',fv)]⟩ (envOf e) { a0 with defers:={ target:=.fn (.func g') #[],args:=#[fv] } :: a0.defers }:=
    ⟨he.size,by rw [hdef],fun u v hv=>by simp only [List.mem_singleton,Prod.mk.injEq] at hv;obtain ⟨rfl,rfl⟩:=hv;exact hfv,he.rel⟩
   refine wp_mono (wexec_ok (N:=⟨fn.ntmps,[{ target:=.fn (.func g') #[],args:=#[fv] }],[(t',fv)]⟩) hm z _ s0 _ hz h ⟨w,pub,σ,dom s σ⟩ pub0 σ0 _ w0 hbase.sig hs hN) ?_
   rintro x a' w' ⟨E,s2,pub2,σ2,⟨_,e2,s3,hv,hres⟩,hs2,he2⟩
   obtain ⟨pub',σ',hs',he'⟩:=hv _ pub2 σ2 a' w' _ hbase.sig hs2 he2
   have hrec : ∀ r0,DRecN P g' (envOf e2 t') r0 e2 s3 rs fin → Leaves P fn a'.tmps (fun e w'=>∃ cv pub' σ',e = .returned cv ∧ SR ⟨w,pub,σ,dom s σ⟩ pub' σ' s' w' ∧ Rel pub' σ' v cv) a'.defers (recMode r0) w':=by
    rintro r0 ⟨s4,hen,hcr,hfinal⟩
    rw [he'.defers]
    have hrel:=he'.rel t'
    rw [he'.kept t' fv (by simp)] at hrel
    refine leaves_cons (by cases r0 <;> simp [recMode]) (f:=g') (args:=#[fv]) (by simp only [invoke];rw [Array.append_empty];exact hen _ w') ?_
    refine CallsD.mono (hcr pub' σ' w' _ hs'.toBase ⟨rfl,fun j x y hx hy=>?_⟩) ?_
    ·cases j with
     | zero=>simp at hx hy;subst hx hy;simpa using hrel
     | succ j=>simp at hx
    rintro en u' w5 ⟨⟨cv,rfl⟩,hset,pub5,σ5,hs5⟩
    show Leaves P fn a'.tmps _ [] (settle u') w5
    rw [hset]
    exact leave e2 s4 pub5 σ5 a' w5 _ hfinal (hs'.trans hs5) (he'.mono hs5.ple hs5.sle)
   have hres2 : wdn P g' t' rs fin x e2 s3:=hres
   unfold wdn at hres2
   split at hres2
   ·exact hrec none hres2
   ·exact hrec none hres2
   ·exact hrec (some _) hres2
   ·exact hres2.elim
  | cons x l ih=>
   intro e s0 pub0 σ0 a0 w0 hl h hs he
   rw [List.all_cons,Bool.and_eq_true] at hl
   replace h : X ⟨P,s.length,A⟩ (lt x) e s0 (.andk (XL ⟨P,s.length,A⟩ (.fin rs fin) (l.map lt) (fun e s1=>X ⟨P,s.length,A⟩ (lt z) e s1 (.fany (wdn P g' t' rs fin)))) (.fin rs fin)):=h
   show x.wp P _ a0 w0
   refine wp_mono (wexec_ok (N:=frn fn.ntmps) hm x _ s0 _ hl.1 h ⟨w,pub,σ,dom s σ⟩ pub0 σ0 _ w0 hbase.sig hs he) ?_
   rintro y a' w' ⟨E,s2,pub2,σ2,⟨_,e2,s3,hv,hres⟩,hs2,he2⟩
   obtain ⟨pub',σ',hs',he'⟩:=hv _ pub2 σ2 a' w' _ hbase.sig hs2 he2
   cases y with
   | normal=>exact ih e2 s3 pub' σ' a' w' hl.2 hres hs' he'
   | ret=>
    show Leaves P fn a'.tmps _ a'.defers .returning w'
    rw [he'.defers]
    exact leave e2 s3 pub' σ' a' w' _ hres hs' he'
   | exit i=>exact hres.elim
   | goto l=>exact hres.elim
   | panic ch=>exact hres.elim
   | outgrown=>exact hres.elim
 exact key pre (argsA 0 args) s pub σ _ w hpre h (SR.start hbase) hER
theorem fdnA {P : Program} {F : FuncId} {xs : List XC} {t : Nat} {g : FuncId} {x : XC} {rs : List ResultVar} {fn : Func} {A : Ann} (hf : P.funcs[F]? = some fn) (hm : P.follows .mixedOrders = true)
  (hc : ((fn.body.bind cutN).map fun p=>p.1.all (chkC fn.ntmps A) && chkC ⟨fn.ntmps,[t]⟩ A p.2.2 && decide (t < fn.ntmps)) = some true)
  (hx : ((fn.body.bind cutN).bind fun p=>(dnShape p.2.1).map fun q=>(p.1.map lt,q.1,q.2,lt p.2.2)) = some (xs,t,g,x)) (hr : fn.results.toList = rs) : FDN P F (cxA A) xs t g x rs fn:=
 ⟨⟨A,fun _ _=>rfl,hc⟩,hf,hx,hr,hm⟩
theorem FDN.os {P : Program} {F : FuncId} {C : Program → Nat → WC} {xs : List XC} {t : Nat} {g : FuncId} {x : XC} {rs : List ResultVar} {fn : Func} (i : FDN P F C xs t g x rs fn) {args : List PV} {v : PV}
  (h : XL (C P 0) (.fin rs fun v1 s1=>softV (deref s1 6 v1) = v) xs (fun e s1=>X (C P 0) x e s1 (.fany (wdn P g t rs fun v1 s1=>softV (deref s1 6 v1) = v))) (argsA 0 args) []) (hl : Nat.ble args.length fn.ntmps = true:=by exact rfl) : CallOK P F args [] v []:=
 FDN.ops i _ (fun v1 s1 h=>RetView.softV h) h hl
end Go.Pv
namespace Go.Proofs.Ytbimioonhfhflaa
open Go Go.Pv
def x25 : XC:=.seq (.reg [⟨some 4,.alloc 39,none⟩]) (.seq (.reg [⟨some 5,.move (.tmp 0),none⟩,⟨some 6,.move (.tmp 1),none⟩,⟨some 7,.build 39 #[(0,.tmp 5),(1,.tmp 6)],none⟩,⟨none,.store 39 (.tmp 4) (.tmp 7),none⟩]) .ret)
@[simp] theorem x25_s {C e s K} : type_of% (@X_at C e s K _ _ x25.eq_1):=X_at x25.eq_1
def an25 : Ann:=⟨[],[],[]⟩
theorem fi25 : FI Try.prog 25 (cxA an25) x25 [.cell 4 39] Try.f25:=fiA Try.func25 mixed
theorem fault_first (c a : Int) : CallOK Try.prog 25 [.int .i64 c,.int .i64 a] [] (.agg [.int .i64 c,.int .i64 a]) []:=by
 refine fi25.op ?_
 (refine Sg.h ?_;try repeat' ((with_reducible first|refine brA ?_|refine brE fun _=>?_|refine spl ⟨?_,?_⟩<;>intro _)<;>((try simp -implicitDefEqProofs(disch:=first|assumption|(try simp only[lens]);omega -splitDisjunctions)))))
def stopE (c p : Int) : Value:=.iface 109 (.agg #[.int .i64 c,.int .i64 p])
@[simp] theorem xi_fst (v : PV) : xiface Try.prog 109 v = some (.iface 109 v):=by kernel_rfl
@[simp] theorem xa_fst (v : PV) : xassert Try.prog 109 true (.iface 109 v) = some (.tuple [v,.bool true]):=by kernel_rfl
theorem pan_fst (c p : Int) : panP (.iface 109 (.agg [.int .i64 c,.int .i64 p])) = some (stopE c p):=rfl
section
variable {α : Type} {enc : α → PV} {P : Program} {rs : List ResultVar} {m : Nat} {t : ByteArray} {f : α} {j p q : Nat} {e : AE} {s : Store} {v : Value}
end
def capB (b : UInt8) : Bool:=decide (65 ≤ b.toNat ∧ b.toNat ≤ 90)
def letA (b : UInt8) : Bool:=letterB b || capB b
def isBigB (s : ByteArray) : Bool:=decide (1 ≤ s.size ∧ s.size ≤ 8) && (s.data.toList.head?.map capB).getD false && s.data.toList.all letA
theorem or32 (b : UInt8) : (97 ≤ (b ||| 32).toNat ∧ (b ||| 32).toNat ≤ 122) ↔ letA b = true:=by
 have h : ∀ n,n < 256 → ((97 ≤ (UInt8.ofNat n ||| 32).toNat ∧ (UInt8.ofNat n ||| 32).toNat ≤ 122) ↔ letA (UInt8.ofNat n) = true):=by decide
 have:=h b.toNat b.toNat_lt
 rwa [UInt8.ofNat_toNat] at this
theorem or_u8 (b : UInt8) : orI .u8 (b.toNat : Int) 32 = (((b ||| 32).toNat : Nat) : Int):=by
 have h : ∀ n : Nat,n < 256 → orI .u8 (n : Int) 32 = (((UInt8.ofNat n ||| 32).toNat : Nat) : Int):=by decide +kernel
 have:=h b.toNat b.toNat_lt
 rwa [UInt8.ofNat_toNat] at this
theorem all_at {p : UInt8 → Bool} {s : ByteArray} {i : Nat} (h : i < s.size) : (s.data.toList.drop i).all p = (p s[i] && (s.data.toList.drop (i + 1)).all p):=by
 rw [List.drop_eq_getElem_cons (by exact h)];rfl
theorem all_end {p : UInt8 → Bool} {s : ByteArray} {i : Nat} (h : s.size ≤ i) : (s.data.toList.drop i).all p = true:=by
 rw [List.drop_of_length_le (by exact h)];rfl
theorem head_at {s : ByteArray} (h : 0 < s.size) : s.data.toList.head? = some s[0]:=by
 rw [← List.drop_zero (l:=s.data.toList),List.drop_eq_getElem_cons (by exact h)];rfl
theorem isBig_eq {s : ByteArray} (h : 0 < s.size) : isBigB s = (decide (s.size ≤ 8) && capB s[0] && (s.data.toList.drop 0).all letA):=by
 unfold isBigB
 rw [head_at h,List.drop_zero,show decide (1 ≤ s.size ∧ s.size ≤ 8) = decide (s.size ≤ 8) by rw [decide_eq_decide];omega];rfl
def x47_L0 : XC:=.seq (.reg [⟨some 26,.binOp .lss 3 (.tmp 25) (.tmp 24) 3,none⟩]) (.seq (.cond (.tmp 26) .skip (.exit 0)) (.seq (.block 1 (.seq (.reg [⟨some 27,.move (.tmp 25),none⟩,⟨some 3,.assign (.tmp 27),none⟩]) (.seq (.reg [⟨some 28,.move (.tmp 0),none⟩,⟨some 29,.move (.tmp 3),none⟩,⟨some 30,.index 9 (.tmp 28) (.tmp 29),none⟩,⟨some 31,.binOp .or 5 (.tmp 30) (.const (.int .u8 32)) 5,none⟩,⟨some 4,.assign (.tmp 31),none⟩]) (.seq (.reg [⟨some 32,.move (.tmp 4),none⟩,⟨some 33,.binOp .lss 5 (.tmp 32) (.const (.int .u8 97)) 5,none⟩,⟨some 34,.move (.tmp 33),none⟩,⟨some 35,.move (.tmp 4),some (some 34,false)⟩,⟨some 36,.binOp .gtr 5 (.tmp 35) (.const (.int .u8 122)) 5,some (some 34,false)⟩,⟨some 37,.pick (.tmp 34) (.const (.bool true)) (.tmp 36),none⟩]) (.cond (.tmp 37) (.seq (.reg [⟨some 2,.assign (.const (.bool false)),none⟩]) .ret) .skip))))) (.reg [⟨some 38,.binOp .add 3 (.tmp 25) (.const (.int .i64 1)) 3,none⟩,⟨some 25,.move (.tmp 38),none⟩])))
def x47 : XC:=.seq (.reg [⟨some 2,.assign (.const (.bool false)),none⟩]) (.seq (.seq (.reg [⟨some 5,.move (.tmp 0),none⟩,⟨some 6,.call ⟨.builtin .len,#[.tmp 5],#[9]⟩,none⟩,⟨some 7,.binOp .lss 3 (.tmp 6) (.const (.int .i64 1)) 3,none⟩,⟨some 8,.move (.tmp 7),none⟩,⟨some 9,.move (.tmp 0),some (some 8,false)⟩,⟨some 10,.call ⟨.builtin .len,#[.tmp 9],#[9]⟩,some (some 8,false)⟩,⟨some 11,.binOp .gtr 3 (.tmp 10) (.const (.int .i64 8)) 3,some (some 8,false)⟩,⟨some 12,.pick (.tmp 8) (.const (.bool true)) (.tmp 11),none⟩,⟨some 13,.move (.tmp 12),none⟩,⟨some 14,.move (.tmp 0),some (some 13,false)⟩,⟨some 15,.index 9 (.tmp 14) (.const (.int .i64 0)),some (some 13,false)⟩,⟨some 16,.binOp .lss 5 (.tmp 15) (.const (.int .u8 65)) 5,some (some 13,false)⟩,⟨some 17,.pick (.tmp 13) (.const (.bool true)) (.tmp 16),none⟩,⟨some 18,.move (.tmp 17),none⟩,⟨some 19,.move (.tmp 0),some (some 18,false)⟩,⟨some 20,.index 9 (.tmp 19) (.const (.int .i64 0)),some (some 18,false)⟩,⟨some 21,.binOp .gtr 5 (.tmp 20) (.const (.int .u8 90)) 5,some (some 18,false)⟩,⟨some 22,.pick (.tmp 18) (.const (.bool true)) (.tmp 21),none⟩]) (.cond (.tmp 22) (.seq (.reg [⟨some 2,.assign (.const (.bool false)),none⟩]) .ret) .skip)) (.seq (.seq (.reg [⟨some 23,.move (.tmp 0),none⟩,⟨some 24,.call ⟨.builtin .len,#[.tmp 23],#[9]⟩,none⟩,⟨some 25,.move (.const (.int .i64 0)),none⟩]) (.bloop 0 x47_L0)) (.seq (.reg [⟨some 2,.assign (.const (.bool true)),none⟩]) .ret)))
@[simp] theorem x47_s {C e s K} : type_of% (@X_at C e s K _ _ x47_L0.eq_1) ∧ type_of% (@X_at C e s K _ _ x47.eq_1):=⟨X_at x47_L0.eq_1,X_at x47.eq_1⟩
def an47 : Ann:=⟨[],[(0,[],[0,24,25],[2])],[]⟩
@[simp] theorem an47_a : an47.loopOf 0 = ([],[0,24,25],[2]):=rfl
theorem fi47 : FI Try.prog 47 (cxA an47) x47 [.tmp 2] Try.f47:=fiA Try.func47 mixed
theorem IsBig_first (s : ByteArray) : CallOK Try.prog 47 [.str s] [] (.bool (isBigB s)) []:=by
 refine fi47.op ?_
 by_cases h1 : s.size < 1
 ·have : isBigB s = false := by unfold isBigB; rw [decide_eq_false (by omega)]; rfl
  rw [this]
  have h1' : (s.size : Int) < 1:=by omega
  (refine Sg.h ?_;try repeat' ((with_reducible first|refine brA ?_|refine brE fun _=>?_|refine spl ⟨?_,?_⟩<;>intro _)<;>((try simp -implicitDefEqProofs(disch:=first|assumption|(try simp only[lens]);omega -splitDisjunctions) [h1']))))
 by_cases h2 : 8 < s.size
 ·have : isBigB s = false := by unfold isBigB; rw [decide_eq_false (by omega)]; rfl
  rw [this]
  have h1' : ¬ (s.size : Int) < 1:=by omega
  have h2' : (8 : Int) < (s.size : Int):=by omega
  (refine Sg.h ?_;try repeat' ((with_reducible first|refine brA ?_|refine brE fun _=>?_|refine spl ⟨?_,?_⟩<;>intro _)<;>((try simp -implicitDefEqProofs(disch:=first|assumption|(try simp only[lens]);omega -splitDisjunctions) [h1',h2']))))
 have h0 : 0 < s.size:=by omega
 have h1' : ¬ (s.size : Int) < 1:=by omega
 have h2' : ¬ (8 : Int) < (s.size : Int):=by omega
 obtain ⟨R,hR⟩ : ∃ R,isBigB s = R:=⟨_,rfl⟩
 rw [hR]
 rw [isBig_eq h0,decide_eq_true (by omega),Bool.true_and] at hR
 cases hc : capB s[0] with
 | false=>
  rw [hc] at hR
  subst hR
  simp only [capB,decide_eq_false_iff_not] at hc
  by_cases h3 : 65 ≤ s[0].toNat
  ·have h4 : ¬ ((s[0].toNat : Int) < 65) := by omega
   have h5 : (90 : Int) < (s[0].toNat : Int):=by omega
   (refine Sg.h ?_;try repeat' ((with_reducible first|refine brA ?_|refine brE fun _=>?_|refine spl ⟨?_,?_⟩<;>intro _)<;>((try simp -implicitDefEqProofs(disch:=first|assumption|(try simp only[lens]);omega -splitDisjunctions) [h1',h2',h0,h4,h5]))))
  ·have h4 : ((s[0].toNat : Int) < 65) := by omega
   (refine Sg.h ?_;try repeat' ((with_reducible first|refine brA ?_|refine brE fun _=>?_|refine spl ⟨?_,?_⟩<;>intro _)<;>((try simp -implicitDefEqProofs(disch:=first|assumption|(try simp only[lens]);omega -splitDisjunctions) [h1',h2',h0,h4]))))
 | true=>
  rw [hc,Bool.true_and] at hR
  simp only [capB,decide_eq_true_eq] at hc
  have h4 : ¬ ((s[0].toNat : Int) < 65):=by omega
  have h5 : ¬ ((90 : Int) < (s[0].toNat : Int)):=by omega
  (refine Sg.h ?_;try repeat' ((with_reducible first|refine brA ?_|refine brE fun _=>?_|refine spl ⟨?_,?_⟩<;>intro _)<;>((try simp -implicitDefEqProofs(disch:=first|assumption|(try simp only[lens]);omega -splitDisjunctions) [h1',h2',h0,h4,h5]))))
  refine W_of fun Q hQ=>?_
  have main : ∀ n i,i + n = s.size → (s.data.toList.drop i).all letA = R → Q [(0,.str s),(24,.int .i64 (s.size : Int)),(25,.int .i64 (i : Int))] []:=by
   intro n
   induction n with
   | zero=>
    intro i hi hR
    rw [all_end (by omega)] at hR
    subst hR
    obtain rfl : i = s.size:=by omega
    apply hQ
    clear hQ
    (refine Sg.h ?_;try repeat' ((with_reducible first|refine brA ?_|refine brE fun _=>?_|refine spl ⟨?_,?_⟩<;>intro _)<;>((try simp -implicitDefEqProofs(disch:=first|assumption|(try simp only[lens]);omega -splitDisjunctions)))))
   | succ n ih=>
    intro i hi hR
    have hlt : i < s.size:=by omega
    have ih:=ih (i + 1) (by omega)
    clear hc h4 h5
    rw [all_at hlt] at hR
    have ho:=or32 s[i]
    cases hL : letA s[i] with
    | true=>
     rw [hL,Bool.true_and] at hR
     have ih:=ih hR
     rw [hL] at ho
     obtain ⟨g1,g2⟩:=ho.2 rfl
     have hu:=or_u8 s[i]
     generalize (s[i] ||| 32).toNat = u at *
     have g3 : ¬ (u : Int) < 97:=by omega
     have g4 : ¬ (122 : Int) < (u : Int):=by omega
     apply hQ
     clear hQ
     (refine Sg.h ?_;try repeat' ((with_reducible first|refine brA ?_|refine brE fun _=>?_|refine spl ⟨?_,?_⟩<;>intro _)<;>((try simp -implicitDefEqProofs(disch:=first|assumption|(try simp only[lens]);omega -splitDisjunctions) [hlt,hu,g3,g4]))))
     all_goals first|exact ih|(refine at2 ih ?_ ?_<;>simp;done)|(exfalso;first|omega|(simp_all;done)|(simp_all;omega))
    | false=>
     rw [hL] at hR
     subst hR
     rw [hL] at ho
     have hu:=or_u8 s[i]
     generalize (s[i] ||| 32).toNat = u at *
     have g3 : (u : Int) < 97 ∨ ¬ (u : Int) < 97 ∧ (122 : Int) < (u : Int):=by
      have : ¬ (97 ≤ u ∧ u ≤ 122):=fun h=>by simpa using ho.1 h
      omega
     apply hQ
     clear hQ ih
     rcases g3 with g3 | ⟨g3,g4⟩
     ·(refine Sg.h ?_;try repeat' ((with_reducible first|refine brA ?_|refine brE fun _=>?_|refine spl ⟨?_,?_⟩<;>intro _)<;>((try simp -implicitDefEqProofs(disch:=first|assumption|(try simp only[lens]);omega -splitDisjunctions) [hlt,hu,g3]))))
     ·(refine Sg.h ?_;try repeat' ((with_reducible first|refine brA ?_|refine brE fun _=>?_|refine spl ⟨?_,?_⟩<;>intro _)<;>((try simp -implicitDefEqProofs(disch:=first|assumption|(try simp only[lens]);omega -splitDisjunctions) [hlt,hu,g3,g4]))))
  all_goals first|exact main _ 0 (Nat.zero_add _) hR|(refine at2 main _ 0 (Nat.zero_add _) hR ?_ ?_<;>simp;done)|(exfalso;first|omega|(simp_all;done)|(simp_all;omega))
end Go.Proofs.Ytbimioonhfhflaa
namespace Go.Proofs.Ytbimioonhfhflaa
open Go Go.Pv
abbrev eW (w : Wd) : PV:=.agg (wrd w)
end Go.Proofs.Ytbimioonhfhflaa
