import Derived.Test.YtbimioonhfhflaaDPvCode
set_option linter.unusedVariables false
set_option linter.unusedSimpArgs false
namespace Go.Pv
open Go Go.RowKit
section
variable {P : Program} {N : FrN} {m : Nat} {e : Env} {s : Store} {K : Post}
theorem wload_run {T : TypeId} {ti : TI} (ht : tinfo P T = some ti) {C : Ctx} {pub : PHeap} {σ : Sig} {w : World} (hs : SR C pub σ s w) {x : PV} {cx : Value} {K : PV → Prop} (h : WLoad ti s x K) (hr : Rel pub σ x cx) :
  ∃ ad v cv,cx = .pointer (some ad) ∧ K v ∧ Rel pub σ v cv ∧ (loadVar T ad).run P w = .ok cv w:=by
 unfold WLoad at h
 split at h
 ·rename_i i r off
  obtain ⟨z,rows,row,hi,hrow,h⟩:=h
  cases hr with
  | ptr hσ=>
   rename_i l
   obtain ⟨hn,cs,ty,hb,hsz,hR⟩:=rowAt_ok hs hi hσ hrow
   obtain ⟨v,cv,hk,hrel,hrun⟩:=readP_run ht hb (o:=l.o + r * l.esz) h hsz hR
   exact ⟨_,v,cv,rfl,hk,hrel,hrun⟩
 ·rename_i cells
  cases hr with
  | iptr hb hsz hrel=>
   rename_i b o' cs ty fr
   obtain ⟨v,cv,hk,hrel,hrun⟩:=readP_run (σ:=σ) ht (hs.pubIn _ _ hb) (o:=o') h hsz fun j v c h1 h2=>(hrel j v c h1 h2).up (noSig_le σ)
   rw [Nat.add_zero] at hrun
   exact ⟨_,v,cv,rfl,hk,hrel,hrun⟩
 ·exact h.elim
def WRes (P : Program) (e : Env) (s : Store) : List ResultVar → (List PV → Prop) → Prop
 | [],k=>k []
 | .tmp t :: r,k=>WRes P e s r fun vs=>k (e t :: vs)
 | .cell a T :: r,k=>∃ ti,tinfo P T = some ti ∧ WLoad ti s (e a) fun v=>WRes P e s r fun vs=>k (v :: vs)
theorem RelA.cons {pub : PHeap} {σ : Sig} {v : PV} {c : Value} {vs : List PV} {cs : List Value} (h : Rel pub σ v c) (g : RelA pub σ vs cs.toArray) : RelA pub σ (v :: vs) (c :: cs).toArray:=by
 refine ⟨by simpa using g.1,fun j x y hx hy=>?_⟩
 cases j with
 | zero=>simp at hx hy;subst hx hy;exact h
 | succ j=>exact g.2 j x y (by simpa using hx) (by simpa using hy)
theorem asAddr_some (a : Addr) : asAddr (.pointer (some a)) = pure a:=rfl
def resOne (tmps : Array Value) : ResultVar → Sem Value
 | .tmp t=>pure (tmps.getD t undef)
 | .cell x t=>do loadVar t (← asAddr (tmps.getD x undef))
theorem results_eq (fn : Func) (tmps : Array Value) : results fn tmps = (fn.results.mapM (resOne tmps) >>= fun vs=>pure (if h : vs.size = 1 then vs[0] else .tuple vs)):=rfl
theorem wres_run {C : Ctx} {pub : PHeap} {σ : Sig} {a : Act} {w : World} (hs : SR C pub σ s w) (he : ER pub σ N e a) : ∀ (rs : List ResultVar) (k : List PV → Prop),WRes P e s rs k →
  ∃ (vs : List PV) (cs : List Value),k vs ∧ RelA pub σ vs cs.toArray ∧ (rs.mapM (resOne a.tmps)).run P w = .ok cs w:=by
 intro rs
 induction rs with
 | nil=>intro k h;exact ⟨[],[],h,⟨rfl,fun j v c h=>by simp at h⟩,rfl⟩
 | cons r rs ih=>
  intro k h
  cases r with
  | tmp t=>
   obtain ⟨vs,cs,hk,hr,hrun⟩:=ih _ h
   exact ⟨_,_ :: cs,hk,.cons (he.rel t) hr,by simp only [List.mapM_cons,resOne,Sem.run_bind,Sem.run_pure,Result.andThen_ok,hrun]⟩
  | cell x T=>
   obtain ⟨ti,ht,h⟩:=h
   obtain ⟨ad,v,cv,hcx,hk,hrel,hload⟩:=wload_run ht hs h (he.rel x)
   obtain ⟨vs,cs,hk,hr,hrun⟩:=ih _ hk
   exact ⟨_,cv :: cs,hk,.cons hrel hr,by simp only [List.mapM_cons,resOne,Sem.run_bind,Sem.run_pure,Result.andThen_ok,hcx,asAddr_some,hload,hrun]⟩
def retV : List PV → PV
 | [v]=>v
 | vs=>.tuple vs
def RetView (m : Nat) (v : PV) (s : Store) (v' : PV) (s' : Store) : Prop:=
 ∀ C pub σ w cv,(∀ i,m ≤ i → C.sig i = none) → SR C pub σ s w → Rel pub σ v cv → ∃ pub' σ',SR C pub' σ' s' w ∧ Rel pub' σ' v' cv
theorem RetView.refl (v : PV) (s : Store) : RetView m v s v s:=fun _ pub σ _ _ _ hs hr=>⟨pub,σ,hs,hr⟩
theorem RetView.trans {v₁ v₂ v₃ : PV} {s₁ s₂ s₃ : Store} (h : RetView m v₁ s₁ v₂ s₂) (g : RetView m v₂ s₂ v₃ s₃) : RetView m v₁ s₁ v₃ s₃:=by
 intro C pub σ w cv hm hs hr
 obtain ⟨p,t,h1,h2⟩:=h C pub σ w cv hm hs hr
 exact g C p t w cv hm h1 h2
def finK (P : Program) (m : Nat) (rs : List ResultVar) (v : PV) (s' : Store) : Post:=fun x e s1=>
 (match x with | .normal | .ret=>True | _=>False) ∧ WRes P e s1 rs fun vs=>RetView m (retV vs) s1 v s'
def argEnv (args : List PV) : Env:=fun t=>(args[t]?).getD (.tuple [])
theorem callOK_of {N : Nat} {f : FuncId} {fn : Func} {c : Code} {lc : LC} {args : List PV} {v : PV} {s' : Store} (hf : P.funcs[f]? = some fn) (hb : fn.body = some c) (hl : light c = lc) (hN : fn.ntmps = N) (hlen : args.length ≤ N)
  (h : EvL P ⟨N,[],[]⟩ s.length lc (argEnv args) s (finK P s.length fn.results.toList v s')) : CallOK P f args s v s':=by
 intro pub σ w cargs hbase hargs
 refine calls_of_wp hf hb ?_
 have hER : ER pub σ ⟨N,[],[]⟩ (argEnv args) { tmps:=cargs ++ Array.replicate (fn.ntmps - cargs.size) undef,defers:=[] }:=by
  refine ⟨by simp [hN,hargs.1];omega,rfl,fun _ _ h=>(by cases h),fun t=>?_⟩
  have hund : Rel pub σ (.tuple []) undef:=.tuple rfl fun j v c h=>by simp at h
  by_cases ht : t < args.length
  ·have h1 : args[t]? = some args[t] := List.getElem?_eq_getElem ht
   have h2 : cargs[t]? = some (cargs[t]'(by rw [hargs.1];exact ht)):=Array.getElem?_eq_getElem _
   have h3 : (cargs ++ Array.replicate (fn.ntmps - cargs.size) undef).getD t undef = cargs[t]'(by rw [hargs.1];exact ht):=by
    rw [Array.getD_eq_getD_getElem?,Array.getElem?_append_left (by rw [hargs.1];exact ht),h2];rfl
   rw [h3]
   simp only [argEnv,h1,Option.getD_some]
   exact hargs.2 t _ _ h1 h2
  ·have h3 : (cargs ++ Array.replicate (fn.ntmps - cargs.size) undef).getD t undef = undef := by
    rw [Array.getD_eq_getD_getElem?,Array.getElem?_append_right (by rw [hargs.1];omega),Array.getElem?_replicate]
    split <;> rfl
   rw [h3]
   simp only [argEnv,List.getElem?_eq_none (show args.length ≤ t by omega),Option.getD_none]
   exact hund
 refine wp_mono (h c hl ⟨w,pub,σ,dom s σ⟩ pub σ _ w hbase.sig (SR.start hbase) hER) ?_
 rintro x a' w' ⟨e',s1,pub',σ',⟨hx,hres⟩,hs',he'⟩
 obtain ⟨vs,cs,hk,hrel,hrun⟩:=wres_run hs' he' _ _ hres
 have hR : (results fn a'.tmps).run P w' = .ok (if h : cs.toArray.size = 1 then cs.toArray[0] else .tuple cs.toArray) w':=by
  rw [results_eq,Sem.run_bind,Array.mapM_eq_mapM_toList,Sem.run_map,hrun]
  rfl
 have hrv : Rel pub' σ' (retV vs) (if h : cs.toArray.size = 1 then cs.toArray[0] else .tuple cs.toArray):=by
  have hsz:=hrel.1
  match vs,cs,hrel,hsz with
  | [v],[c],hrel,_=>exact hrel.2 0 v c rfl rfl
  | [],[],hrel,_=>exact .tuple hrel.1 hrel.2
  | v1 :: v2 :: vs,c1 :: c2 :: cs,hrel,_=>simpa [retV] using Rel.tuple hrel.1 hrel.2
 obtain ⟨pub'',σ'',hs'',hr''⟩:=hk _ pub' σ' w' _ hbase.sig hs' hrv
 have hgoal : a'.defers = [] ∧ ∃ v₁,(results fn a'.tmps).run P w' = .ok v₁ w' ∧ ∃ cv pub' σ',Ending.returned v₁ = .returned cv ∧ SR ⟨w,pub,σ,dom s σ⟩ pub' σ' s' w' ∧ Rel pub' σ' v cv:=
  ⟨he'.defers,_,hR,_,pub'',σ'',rfl,hs'',hr''⟩
 cases x <;> first | exact hgoal | exact hx.elim
def deref (s : Store) : Nat → PV → PV
 | n + 1,.sl i off len=>match s[i]? with
  | some (.rows z rs)=>if off + len ≤ rs.length then .list (((rs.drop off).take len).map fun row=>row.map (deref s n)) else .any
  | _=>.any
 | n + 1,.ptr i r off=>match s[i]? with
  | some (.rows z rs)=>match rs[r]? with
   | some row=>if off ≤ row.length then .iptr ((row.drop off).map (deref s n)) else .any
   | none=>.any
  | _=>.any
 | n + 1,.mapv i=>match s[i]? with
  | some (.map es)=>.imap (es.map fun p=>(deref s n p.1,deref s n p.2))
  | _=>.any
 | n + 1,.agg cs=>.agg (cs.map (deref s n))
 | n + 1,.tuple cs=>.tuple (cs.map (deref s n))
 | n + 1,.fn f xs ys=>.fn f (xs.map (deref s n)) (ys.map (deref s n))
 | n + 1,.iface t v=>.iface t (deref s n v)
 | 0,.sl _ _ _ | 0,.ptr _ _ _ | 0,.agg _ | 0,.tuple _ | 0,.fn _ _ _ | 0,.iface _ _ | 0,.mapv _=>.any
 | _,v=>v
noncomputable def opened (pub : PHeap) (σ : Sig) (s : Store) (w : World) : PHeap:=fun b=>open Classical in if dom s σ b then w.heap[b]? else pub b
theorem opened_le {C : Ctx} {pub : PHeap} {σ : Sig} {w : World} (hs : SR C pub σ s w) : pub.le (opened pub σ s w):=by
 intro b o hb
 unfold opened
 split
 ·rename_i hd
  obtain ⟨i,l,hl,rfl⟩:=hd
  rw [(ObjOK.alive hs.obj hl).1] at hb;cases hb
 ·exact hb
theorem deref_rel {C : Ctx} {pub : PHeap} {σ : Sig} {w : World} (hs : SR C pub σ s w) : ∀ (n : Nat) (v : PV) (c : Value),Rel pub σ v c → Rel (opened pub σ s w) noSig (deref s n v) c:=by
 have hle:=opened_le hs
 have hblk : ∀ (i : Nat) (l : Loc) (rs : List (List PV)) (z : Nat),s[i]? = some (.rows z rs) → σ i = some l → 0 < l.n → opened pub σ s w l.b = w.heap[l.b]?:=by
  intro i l rs z hi hσ hn
  unfold opened;rw [if_pos ⟨i,l,⟨_,hi,by simp,hσ,hn⟩,rfl⟩]
 intro n
 induction n with
 | zero=>
  intro v c hr
  cases hr with
  | int=>exact .int
  | bool=>exact .bool
  | str h=>exact .str h
  | nilsl=>exact .nilsl
  | list0 h=>exact .list0 h
  | list hb a1 a2 a3 a4 a5=>exact (Rel.list (σ:=noSig) hb a1 a2 a3 a4 a5).mono hle Sig.le.rfl'
  | iptr hb a1 a2=>exact (Rel.iptr (σ:=noSig) hb a1 a2).mono hle Sig.le.rfl'
  | nilptr=>exact .nilptr
  | nilfn=>exact .nilfn
  | niliface=>exact .niliface
  | nilmap=>exact .nilmap
  | imap hb a1 a2 a3=>exact (Rel.imap (σ:=noSig) hb a1 a2 a3).mono hle Sig.le.rfl'
  | clip hw h=>exact .clip hw (h.mono hle Sig.le.rfl')
  | _=>exact .any
 | succ n ih=>
  intro v c hr
  cases hr with
  | int=>exact .int
  | bool=>exact .bool
  | str h=>exact .str h
  | nilsl=>exact .nilsl
  | list0 h=>exact .list0 h
  | list hb a1 a2 a3 a4 a5=>exact (Rel.list (σ:=noSig) hb a1 a2 a3 a4 a5).mono hle Sig.le.rfl'
  | iptr hb a1 a2=>exact (Rel.iptr (σ:=noSig) hb a1 a2).mono hle Sig.le.rfl'
  | nilptr=>exact .nilptr
  | nilfn=>exact .nilfn
  | niliface=>exact .niliface
  | nilmap=>exact .nilmap
  | imap hb a1 a2 a3=>exact (Rel.imap (σ:=noSig) hb a1 a2 a3).mono hle Sig.le.rfl'
  | clip hw h=>exact .clip hw (h.mono hle Sig.le.rfl')
  | any=>exact .any
  | agg hsz hr=>
   refine .agg (by simpa using hsz) fun j v c hv hc=>?_
   rw [List.getElem?_map,Option.map_eq_some_iff] at hv
   obtain ⟨u,hu,rfl⟩:=hv
   exact ih u c (hr j u c hu hc)
  | tuple hsz hr=>
   refine .tuple (by simpa using hsz) fun j v c hv hc=>?_
   rw [List.getElem?_map,Option.map_eq_some_iff] at hv
   obtain ⟨u,hu,rfl⟩:=hv
   exact ih u c (hr j u c hu hc)
  | fn hsx hrx hsy hry=>
   refine .fn (by simpa using hsx) (fun j v c hv hc=>?_) (by simpa using hsy) (fun j v c hv hc=>?_)
   ·rw [List.getElem?_map,Option.map_eq_some_iff] at hv
    obtain ⟨u,hu,rfl⟩:=hv
    exact ih u c (hrx j u c hu hc)
   ·rw [List.getElem?_map,Option.map_eq_some_iff] at hv
    obtain ⟨u,hu,rfl⟩:=hv
    exact ih u c (hry j u c hu hc)
  | iface h=>exact .iface (ih _ _ h)
  | mapv hσ=>
   rename_i i l
   simp only [deref]
   split
   ·rename_i es hi
    obtain ⟨l',h1,h2,h3,h4,h5,xs,clock,h6,h7,h8⟩:=hs.obj i _ hi
    rw [hσ] at h1;cases h1
    have hbl : opened pub σ s w l.b = w.heap[l.b]?:=by
     unfold opened;rw [if_pos ⟨i,l,⟨_,hi,by simp,hσ,by omega⟩,rfl⟩]
    refine .imap (by rw [hbl];exact h6) (by simpa using h7) (fun j k v e a b=>?_) (fun j k v e a b=>?_)
    ·rw [List.getElem?_map,Option.map_eq_some_iff] at a
     obtain ⟨p,hp,hpe⟩:=a
     cases hpe
     exact ih _ _ (h8 j _ _ e hp b).1
    ·rw [List.getElem?_map,Option.map_eq_some_iff] at a
     obtain ⟨p,hp,hpe⟩:=a
     cases hpe
     exact ih _ _ (h8 j _ _ e hp b).2
   ·exact .any
  | ptr hσ=>
   rename_i i r off l
   simp only [deref]
   split
   ·rename_i z rs hi
    split
    ·rename_i row hrow
     have hlt:=lt_of_getElem? hrow
     obtain ⟨hn,hle',cs,ty,hb,hsz,hR⟩:=hs.rows hi hσ (by rintro rfl;simp at hlt)
     have hw:=hR.wide r row hrow
     have hf:=row_fits (esz:=l.esz) hlt hle'
     split
     ·rename_i hoff
      refine .iptr (by rw [hblk i l rs z hi hσ hn];exact hb) (by simp;omega) fun j v c hv hc=>?_
      rw [List.getElem?_map,Option.map_eq_some_iff] at hv
      obtain ⟨u,hu,rfl⟩:=hv
      rw [List.getElem?_drop] at hu
      exact ih u c (hR.rel r row _ u c hrow hu (by rw [← hc];congr 1;omega))
     ·exact .any
    ·exact .any
   ·exact .any
  | sl hσ hlen hcap ha=>
   rename_i i off len l a cap
   simp only [deref]
   split
   ·rename_i z rs hi
    split
    ·rename_i hfit
     by_cases h0 : len = 0
     ·subst h0;simp;exact .list0 hcap
     ·obtain ⟨rfl,hn⟩ := ha (by omega)
      obtain ⟨hn',hle',cs,ty,hb,hsz,hR⟩:=hs.rows hi hσ (by rintro rfl;simp at hfit;omega)
      have hll : (((rs.drop off).take len).map fun row=>row.map (deref s n)).length = len:=by simp;omega
      have hmul : off * l.esz + len * l.esz ≤ l.n * l.esz:=by rw [← Nat.add_mul];exact Nat.mul_le_mul_right _ (by omega)
      have key : Rel (opened pub σ s w) noSig (.list (((rs.drop off).take len).map fun row=>row.map (deref s n))) (.slice (some ⟨l.b,l.o + off * l.esz,none⟩) (((rs.drop off).take len).map fun row=>row.map (deref s n)).length cap):=by
       refine .list (esz:=l.esz) (by rw [hblk i l rs z hi hσ hn'];exact hb) (by omega) hcap ?_ (by rw [hll];omega) ?_
       ·intro r row hr
        rw [List.getElem?_map,Option.map_eq_some_iff] at hr
        obtain ⟨u,hu,rfl⟩:=hr
        rw [List.getElem?_take] at hu
        split at hu
        ·rw [List.getElem?_drop] at hu
         simpa using hR.wide _ u hu
        ·cases hu
       ·intro r row j v c hr hj hc
        rw [List.getElem?_map,Option.map_eq_some_iff] at hr
        obtain ⟨u,hu,rfl⟩:=hr
        rw [List.getElem?_map,Option.map_eq_some_iff] at hj
        obtain ⟨x,hx,rfl⟩:=hj
        rw [List.getElem?_take] at hu
        split at hu
        ·rw [List.getElem?_drop] at hu
         refine ih x c (hR.rel _ u j x c hu hx ?_)
         rw [Nat.add_mul,← hc];congr 1;omega
        ·cases hu
      rw [hll] at key
      exact key
    ·exact .any
   ·exact .any
theorem opened_in {C : Ctx} {pub : PHeap} {σ : Sig} {w : World} (hs : SR C pub σ s w) : ∀ b o,opened pub σ s w b = some o → w.heap[b]? = some o:=by
 intro b o hb
 unfold opened at hb
 split at hb
 ·exact hb
 ·exact hs.pubIn b o hb
theorem RetView.freeze (n : Nat) (v : PV) : RetView 0 v s (deref s n v) []:=by
 intro C pub σ w cv hm hs hr
 have hsig : C.sig = noSig:=funext fun i=>hm i (Nat.zero_le _)
 refine ⟨opened pub σ s w,noSig,?_,deref_rel hs n v cv hr⟩
 exact {
  pubIn:=opened_in hs
  obj:=fun i o h=>by simp at h
  inj:=fun i j li lj h=>by obtain ⟨o,h1,_⟩:=h;simp at h1
  sig:=fun i _=>rfl
  os:=hs.os,tape:=hs.tape,output:=hs.output,size:=hs.size
  frame:=fun b hb hd=>by
   have h1:=hs.frame b hb hd
   refine ⟨h1.1,?_⟩
   unfold opened
   rw [if_neg,h1.2]
   rintro ⟨i,l,hl,rfl⟩
   rcases hs.own i l hl with h2 | h2
   ·exact hd h2
   ·omega
  own:=fun i l h=>by obtain ⟨o,h1,_⟩:=h;simp at h1
  ple:=hs.ple.trans (opened_le hs)
  sle:=by rw [hsig];exact Sig.le.rfl' }
theorem RetView.done (n : Nat) {v v' : PV} (h : deref s n v = v') : RetView 0 v s v' []:=h ▸ RetView.freeze n v
def Closed (v : PV) : Prop:=∀ pub σ c,Rel pub σ v c → Rel pub noSig v c
def Flat (v : PV) : Prop:=∀ pub σ c,Rel pub σ v c → ∀ pub' σ',Rel pub' σ' v c
theorem Flat.closed {v : PV} (h : Flat v) : Closed v:=fun pub σ c hr=>h pub σ c hr pub noSig
theorem flat_int (k : IntKind) (n : Int) : Flat (.int k n):=fun _ _ _ h _ _=>by cases h;exact .int
theorem flat_bool (b : Bool) : Flat (.bool b):=fun _ _ _ h _ _=>by cases h;exact .bool
theorem flat_str (t : ByteArray) : Flat (.str t):=fun _ _ _ h _ _=>by cases h;exact .str ‹_›
theorem flat_nilsl : Flat .nilsl:=fun _ _ _ h _ _=>by cases h;exact .nilsl
theorem flat_agg {vs : List PV} (h : ∀ v ∈ vs,Flat v) : Flat (.agg vs):=fun _ _ _ hr _ _=>by
 cases hr with
 | agg hsz hr=>exact .agg hsz fun j v c hv hc=>h v (List.mem_of_getElem? hv) _ _ _ (hr j v c hv hc) _ _
theorem flat_tuple {vs : List PV} (h : ∀ v ∈ vs,Flat v) : Flat (.tuple vs):=fun _ _ _ hr _ _=>by
 cases hr with
 | tuple hsz hr=>exact .tuple hsz fun j v c hv hc=>h v (List.mem_of_getElem? hv) _ _ _ (hr j v c hv hc) _ _
theorem closed_list (xs : List (List PV)) : Closed (.list xs):=fun _ _ _ h=>by cases h <;> constructor <;> assumption
theorem closed_iptr (xs : List PV) : Closed (.iptr xs):=fun _ _ _ h=>by cases h;constructor <;> assumption
theorem closed_niliface : Closed .niliface:=fun _ _ _ h=>by cases h;exact .niliface
theorem closed_agg {vs : List PV} (h : ∀ v ∈ vs,Closed v) : Closed (.agg vs):=fun _ _ _ hr=>by
 cases hr with
 | agg hsz hr=>exact .agg hsz fun j v c hv hc=>h v (List.mem_of_getElem? hv) _ _ _ (hr j v c hv hc)
theorem closed_fn {f : Fn} {xs ys : List PV} (h : ∀ v ∈ xs,Closed v) (g : ∀ v ∈ ys,Closed v) : Closed (.fn f xs ys):=fun _ _ _ hr=>by
 cases hr with
 | fn hsx hrx hsy hry=>exact .fn hsx (fun j v c hv hc=>h v (List.mem_of_getElem? hv) _ _ _ (hrx j v c hv hc)) hsy (fun j v c hv hc=>g v (List.mem_of_getElem? hv) _ _ _ (hry j v c hv hc))
theorem Base.bare {pub : PHeap} {w : World} (h : ∀ b o,pub b = some o → w.heap[b]? = some o) : Base pub noSig [] w:=
 ⟨h,fun i o h=>by simp at h,fun i j li lj h=>by obtain ⟨o,h1,_⟩:=h;simp at h1,fun _ _=>rfl⟩
theorem dom_nil (σ : Sig) (b : Nat) : ¬ dom [] σ b:=by rintro ⟨i,l,⟨o,h,_⟩,_⟩;simp at h
theorem SR.kept {pub : PHeap} {σ : Sig} {w w' : World} (h : Base pub σ s w) {pub₀ pub' : PHeap} {σ₀ σ' : Sig} (hs : SR ⟨w,pub₀,σ₀,dom [] noSig⟩ pub' σ' [] w') (q : PHeap) (hq : pub.le q) (hq2 : ∀ b o,q b = some o → w'.heap[b]? = some o)
  (hq3 : ∀ b,b < w.heap.size → q b = pub b) : SR ⟨w,pub,σ,dom s σ⟩ q σ s w':=by
 have hsame : ∀ b,b < w.heap.size → w'.heap[b]? = w.heap[b]?:=fun b hb=>(hs.frame b hb (dom_nil _ _)).1
 exact {
  pubIn:=hq2
  obj:=fun i o hi=>(h.obj i o hi).mono hq Sig.le.rfl' fun l hd hσ hn=>by
   have:=(ObjOK.alive h.obj ⟨o,hi,hd,hσ,hn⟩).2
   exact ⟨hsame _ this,hq3 _ this⟩
  inj:=h.inj
  sig:=h.sig
  os:=hs.os,tape:=hs.tape,output:=hs.output,size:=hs.size
  frame:=fun b hb _=>⟨hsame b hb,hq3 b hb⟩
  own:=fun i l hl=>.inl ⟨i,l,hl,rfl⟩
  ple:=hq
  sle:=Sig.le.rfl' }
theorem CallOK.frame {f : FuncId} {args : List PV} {v : PV} (h : CallOK P f args [] v []) (hc : ∀ a ∈ args,Closed a) : CallOK P f args s v s:=by
 intro pub σ w cargs hbase hargs
 have hargs' : RelA pub noSig args cargs:=⟨hargs.1,fun j x y hx hy=>hc x (List.mem_of_getElem? hx) _ _ _ (hargs.2 j x y hx hy)⟩
 refine Calls.mono (h pub noSig w cargs (.bare hbase.pubIn) hargs') ?_
 rintro en w' ⟨cv,pub',σ',rfl,hs',hr⟩
 have hσ' : σ' = noSig:=funext fun i=>hs'.sig i (Nat.zero_le _)
 subst hσ'
 exact ⟨cv,pub',σ,rfl,SR.kept hbase hs' pub' hs'.ple hs'.pubIn (fun b hb=>(hs'.frame b hb (dom_nil _ _)).2),hr.up (noSig_le σ)⟩
theorem CallOK.borrow {f : FuncId} {args : List PV} {v : PV} (n : Nat) (h : CallOK P f (args.map (deref s n)) [] v []) (hv : Flat v) : CallOK P f args s v s:=by
 intro pub σ w cargs hbase hargs
 have hs0 : SR ⟨w,pub,σ,dom s σ⟩ pub σ s w:=SR.start hbase
 have hargs' : RelA (opened pub σ s w) noSig (args.map (deref s n)) cargs:=by
  refine ⟨by simpa using hargs.1,fun j x y hx hy=>?_⟩
  rw [List.getElem?_map,Option.map_eq_some_iff] at hx
  obtain ⟨u,hu,rfl⟩:=hx
  exact deref_rel hs0 n u y (hargs.2 j u y hu hy)
 refine Calls.mono (h (opened pub σ s w) noSig w cargs (.bare (opened_in hs0)) hargs') ?_
 rintro en w' ⟨cv,pub',σ',rfl,hs',hr⟩
 have hlt : ∀ b o,pub b = some o → b < w.heap.size:=fun b o hb=>by
  have:=hbase.pubIn b o hb
  rcases Nat.lt_or_ge b w.heap.size with h | h;exact h;simp [Array.getElem?_eq_none h] at this
 exact ⟨cv,pub,σ,rfl,SR.kept hbase hs' pub PHeap.le.rfl' (fun b o hb=>((hs'.frame b (hlt b o hb) (dom_nil _ _)).1).trans (hbase.pubIn b o hb)) (fun _ _=>rfl),hv _ _ _ hr _ _⟩
end
end Go.Pv
namespace Go.Pv
open Go Go.RowKit
inductive Ren (ρ : List Nat) : PV → PV → Prop where
 | int {k n} : Ren ρ (.int k n) (.int k n)
 | bool {b} : Ren ρ (.bool b) (.bool b)
 | str {t} : Ren ρ (.str t) (.str t)
 | nilsl : Ren ρ .nilsl .nilsl
 | list {xs} : Ren ρ (.list xs) (.list xs)
 | nilptr : Ren ρ .nilptr .nilptr
 | iptr {xs} : Ren ρ (.iptr xs) (.iptr xs)
 | nilfn : Ren ρ .nilfn .nilfn
 | niliface : Ren ρ .niliface .niliface
 | nilmap : Ren ρ .nilmap .nilmap
 | mapv {i j} (h : ρ[i]? = some j) : Ren ρ (.mapv i) (.mapv j)
 | imap {es} : Ren ρ (.imap es) (.imap es)
 | clip {z xs} : Ren ρ (.clip z xs) (.clip z xs)
 | sl {i j off len} (h : ρ[i]? = some j) : Ren ρ (.sl i off len) (.sl j off len)
 | ptr {i j r off} (h : ρ[i]? = some j) : Ren ρ (.ptr i r off) (.ptr j r off)
 | agg {xs ys} (hl : xs.length = ys.length) (h : ∀ (k : Nat) (x y : PV),xs[k]? = some x → ys[k]? = some y → Ren ρ x y) : Ren ρ (.agg xs) (.agg ys)
 | tuple {xs ys} (hl : xs.length = ys.length) (h : ∀ (k : Nat) (x y : PV),xs[k]? = some x → ys[k]? = some y → Ren ρ x y) : Ren ρ (.tuple xs) (.tuple ys)
 | fn {f xs ys xs' ys'} (hl : xs.length = ys.length) (h : ∀ (k : Nat) (x y : PV),xs[k]? = some x → ys[k]? = some y → Ren ρ x y)
   (hl' : xs'.length = ys'.length) (h' : ∀ (k : Nat) (x y : PV),xs'[k]? = some x → ys'[k]? = some y → Ren ρ x y) : Ren ρ (.fn f xs xs') (.fn f ys ys')
 | iface {t x y} (h : Ren ρ x y) : Ren ρ (.iface t x) (.iface t y)
 | any {y} : Ren ρ .any y
def Sig.ren (σ : Sig) (ρ : List Nat) : Sig:=fun i=>(ρ[i]?).bind σ
theorem Ren.rel {pub : PHeap} {σ : Sig} {ρ : List Nat} {v u : PV} (h : Ren ρ v u) : ∀ {c : Value},Rel pub σ u c → Rel pub (σ.ren ρ) v c:=by
 induction h with
 | int=>intro c hr;cases hr;exact .int
 | bool=>intro c hr;cases hr;exact .bool
 | str=>intro c hr;cases hr;exact .str ‹_›
 | nilsl=>intro c hr;cases hr;exact .nilsl
 | list=>intro c hr;cases hr <;> constructor <;> assumption
 | nilptr=>intro c hr;cases hr;exact .nilptr
 | iptr=>intro c hr;cases hr;constructor <;> assumption
 | nilfn=>intro c hr;cases hr;exact .nilfn
 | niliface=>intro c hr;cases hr;exact .niliface
 | nilmap=>intro c hr;cases hr;exact .nilmap
 | mapv h=>intro c hr;cases hr with | mapv hσ=>exact .mapv (by simp [Sig.ren,h,hσ])
 | imap=>intro c hr;cases hr;constructor <;> assumption
 | clip=>intro c hr;cases hr with | clip hw h=>exact .clip hw h
 | sl h=>
  intro c hr
  cases hr with
  | sl hσ h1 h2 h3=>exact .sl (by simp [Sig.ren,h,hσ]) h1 h2 h3
 | ptr h=>
  intro c hr
  cases hr with
  | ptr hσ=>exact .ptr (by simp [Sig.ren,h,hσ])
 | agg hl h ih=>
  intro c hr
  cases hr with
  | agg hsz hr=>
   refine .agg (by omega) fun j v c hv hc=>?_
   have hj:=lt_of_getElem? hv
   exact ih j v _ hv (List.getElem?_eq_getElem (by omega)) (hr j _ c (List.getElem?_eq_getElem (by omega)) hc)
 | tuple hl h ih=>
  intro c hr
  cases hr with
  | tuple hsz hr=>
   refine .tuple (by omega) fun j v c hv hc=>?_
   have hj:=lt_of_getElem? hv
   exact ih j v _ hv (List.getElem?_eq_getElem (by omega)) (hr j _ c (List.getElem?_eq_getElem (by omega)) hc)
 | fn hl h hl' h' ih ih'=>
  intro c hr
  cases hr with
  | fn hsx hrx hsy hry=>
   refine .fn (by omega) (fun j v c hv hc=>?_) (by omega) (fun j v c hv hc=>?_)
   ·have hj := lt_of_getElem? hv
    exact ih j v _ hv (List.getElem?_eq_getElem (by omega)) (hrx j _ c (List.getElem?_eq_getElem (by omega)) hc)
   ·have hj := lt_of_getElem? hv
    exact ih' j v _ hv (List.getElem?_eq_getElem (by omega)) (hry j _ c (List.getElem?_eq_getElem (by omega)) hc)
 | iface h ih=>intro c hr;cases hr with | iface h=>exact .iface (ih h)
 | any=>intro c hr;exact .any
inductive RenObj (ρ : List Nat) : PObj → PObj → Prop where
 | dead {o} : RenObj ρ .dead o
 | iter {t pos} : RenObj ρ (.iter t pos) (.iter t pos)
 | rows {z rs rs'} (hl : rs.length ≤ rs'.length) (h : ∀ (r : Nat) (row row' : List PV),rs[r]? = some row → rs'[r]? = some row' → row.length = row'.length ∧ ∀ (k : Nat) (x y : PV),row[k]? = some x → row'[k]? = some y → Ren ρ x y) :
   RenObj ρ (.rows z rs) (.rows z rs')
 | same {z rs} (h : ∀ row ∈ rs,∀ x ∈ row,Ren ρ x x) : RenObj ρ (.rows z rs) (.rows z rs)
 | map {es es'} (hl : es.length = es'.length) (h : ∀ (j : Nat) (p p' : PV × PV),es[j]? = some p → es'[j]? = some p' → Ren ρ p.1 p'.1 ∧ Ren ρ p.2 p'.2) : RenObj ρ (.map es) (.map es')
theorem RenObj.ok {pub : PHeap} {σ : Sig} {w : World} {ρ : List Nat} {i j : Nat} {o o' : PObj} (h : RenObj ρ o' o) (hj : ρ[i]? = some j) (ho : ObjOK pub σ w j o) : ObjOK pub (σ.ren ρ) w i o':=by
 have hσ : ∀ l,σ j = some l → σ.ren ρ i = some l:=fun l hl=>by simp [Sig.ren,hj,hl]
 cases h with
 | dead=>trivial
 | iter=>obtain ⟨l,h1,r⟩:=ho;exact ⟨l,hσ l h1,r⟩
 | map hl h=>
  obtain ⟨l,h1,h2,h3,h4,h5,xs,clock,h6,h7,h8⟩:=ho
  refine ⟨l,hσ l h1,h2,h3,h4,h5,xs,clock,h6,h7.trans hl.symm,fun j k v e a b=>?_⟩
  have hlt:=lt_of_getElem? a
  rename_i es es'
  have h9 : es'[j]? = some (es'[j]'(by omega)):=List.getElem?_eq_getElem _
  have h10:=h j _ _ a h9
  have h11:=h8 j _ _ e h9 b
  exact ⟨h10.1.rel h11.1,h10.2.rel h11.2⟩
 | rows hl h=>
  rename_i z rs rs'
  obtain ⟨l,h1,h2,h3,h4⟩:=ho
  refine ⟨l,hσ l h1,h2,by omega,fun hn=>?_⟩
  obtain ⟨h5,cs,ty,h6,h7,h8⟩:=h4 hn
  refine ⟨h5,cs,ty,h6,h7,fun r row hr=>?_,fun r row k v c hr hk hc=>?_⟩
  ·have hlt := lt_of_getElem? hr
   have h9 : rs'[r]? = some (rs'[r]'(by omega)):=List.getElem?_eq_getElem _
   rw [(h r row _ hr h9).1];exact h8.wide r _ h9
  ·have hlt := lt_of_getElem? hr
   have h9 : rs'[r]? = some (rs'[r]'(by omega)):=List.getElem?_eq_getElem _
   have hkl:=lt_of_getElem? hk
   have h10:=h r row _ hr h9
   have h11 : (rs'[r]'(by omega))[k]? = some ((rs'[r]'(by omega))[k]'(by omega)):=List.getElem?_eq_getElem _
   exact (h10.2 k v _ hk h11).rel (h8.rel r _ k _ c h9 h11 hc)
 | same h=>
  rename_i z rs
  obtain ⟨l,h1,h2,h3,h4⟩:=ho
  refine ⟨l,hσ l h1,h2,h3,fun hn=>?_⟩
  obtain ⟨h5,cs,ty,h6,h7,h8⟩:=h4 hn
  exact ⟨h5,cs,ty,h6,h7,h8.wide,fun r row k v c hr hk hc=>(h row (List.mem_of_getElem? hr) v (List.mem_of_getElem? hk)).rel (h8.rel r row k v c hr hk hc)⟩
section
variable {m : Nat} {e : Env} {s s' : Store}
theorem envOf_ren {ρ : List Nat} (l : List (Nat × PV)) (h : ∀ p ∈ l,Ren ρ p.2 (e p.1)) (t : Nat) : Ren ρ (envOf l t) (e t):=by
 induction l with
 | nil=>exact .any
 | cons p l ih=>
  obtain ⟨n,v⟩:=p
  unfold envOf
  split
  ·rename_i hn;subst hn;exact h (t,v) (by simp)
  ·exact ih fun q hq=>h q (by simp [hq])
theorem View.norm (ρ : List Nat) (hm : ∀ i,i < m → ρ[i]? = some i) (hnd : ρ.Nodup) (hlen : s'.length = ρ.length) (hobj : ∀ (i : Nat) (o' : PObj),s'[i]? = some o' → ∃ j o,ρ[i]? = some j ∧ s[j]? = some o ∧ RenObj ρ o' o)
  (l : List (Nat × PV)) (he : ∀ p ∈ l,Ren ρ p.2 (e p.1)) : View m e s (envOf l) s':=by
 intro C pub σ a w N hC hs her
 have halive : ∀ i li,Alive s' (σ.ren ρ) i li → ∃ j,ρ[i]? = some j ∧ Alive s σ j li:=by
  rintro i li ⟨o',h1,h2,h3,h4⟩
  obtain ⟨j,o,h5,h6,h7⟩:=hobj i o' h1
  refine ⟨j,h5,o,h6,?_,by simpa [Sig.ren,h5] using h3,h4⟩
  rintro rfl;cases h7;exact h2 rfl
 refine ⟨pub,σ.ren ρ,?_,⟨her.size,her.defers,her.kept,fun t=>(envOf_ren l he t).rel (her.rel t)⟩⟩
 exact {
  pubIn:=hs.pubIn
  obj:=fun i o' hi=>by
   obtain ⟨j,o,h1,h2,h3⟩:=hobj i o' hi
   exact h3.ok h1 (hs.obj j o h2)
  inj:=fun i j li lj hi hj eb=>by
   obtain ⟨i',h1,h2⟩:=halive i li hi
   obtain ⟨j',h3,h4⟩:=halive j lj hj
   have:=hs.inj i' j' li lj h2 h4 eb
   subst this
   exact (List.getElem?_inj (lt_of_getElem? h1) hnd).1 (h1.trans h3.symm)
  sig:=fun i hi=>by simp [Sig.ren,List.getElem?_eq_none (show ρ.length ≤ i by omega)]
  os:=hs.os,tape:=hs.tape,output:=hs.output,size:=hs.size
  frame:=hs.frame
  own:=fun i li hi=>by obtain ⟨j,_,h2⟩:=halive i li hi;exact hs.own j li h2
  ple:=hs.ple
  sle:=fun i l hl=>by
   have him : i < m:=by
    rcases Nat.lt_or_ge i m with h | h
    ·exact h
    ·rw [hC i h] at hl;cases hl
   simp [Sig.ren,hm i him,hs.sle i l hl] }
def RenL (ρ : List Nat) : List PV → List PV → Prop
 | [],[]=>True
 | x :: xs,y :: ys=>Ren ρ x y ∧ RenL ρ xs ys
 | _,_=>False
theorem RenL.get {ρ : List Nat} : ∀ {xs ys : List PV},RenL ρ xs ys → xs.length = ys.length ∧ ∀ (k : Nat) (x y : PV),xs[k]? = some x → ys[k]? = some y → Ren ρ x y:=by
 intro xs
 induction xs with
 | nil=>intro ys h;cases ys with | nil=>exact ⟨rfl,fun k x y h=>by simp at h⟩ | cons=>exact h.elim
 | cons a as ih=>
  intro ys h
  cases ys with
  | nil=>exact h.elim
  | cons b bs=>
   obtain ⟨h1,h2⟩:=h
   obtain ⟨h3,h4⟩:=ih h2
   refine ⟨by simp [h3],fun k x y hx hy=>?_⟩
   cases k with
   | zero=>simp at hx hy;subst hx hy;exact h1
   | succ k=>exact h4 k x y (by simpa using hx) (by simpa using hy)
theorem RenL.same {ρ : List Nat} {xs : List PV} (h : ∀ x ∈ xs,Ren ρ x x) : RenL ρ xs xs:=by
 induction xs with
 | nil=>trivial
 | cons a as ih=>exact ⟨h a (by simp),ih fun x hx=>h x (by simp [hx])⟩
def RenRows (ρ : List Nat) (rs rs' : List (List PV)) : Prop:=rs.length ≤ rs'.length ∧ ∀ (r : Nat) (row row' : List PV),rs[r]? = some row → rs'[r]? = some row' → RenL ρ row row'
theorem renRows_nil {ρ : List Nat} {rs : List (List PV)} : RenRows ρ [] rs:=⟨by simp,fun r row row' h=>by simp at h⟩
theorem renRows_cons {ρ : List Nat} {a b : List PV} {as bs : List (List PV)} (h : RenL ρ a b) (g : RenRows ρ as bs) : RenRows ρ (a :: as) (b :: bs):=by
 refine ⟨by have:=g.1;simp;omega,fun r row row' hr hr'=>?_⟩
 cases r with
 | zero=>simp at hr hr';subst hr hr';exact h
 | succ r=>exact g.2 r row row' (by simpa using hr) (by simpa using hr')
def RenObjD (ρ : List Nat) : PObj → PObj → Prop
 | .dead,_=>True
 | .iter t p,.iter t' p'=>t = t' ∧ p = p'
 | .rows z rs,.rows z' rs'=>z = z' ∧ RenRows ρ rs rs'
 | .map es,.map es'=>es.length = es'.length ∧ ∀ (j : Nat) (p p' : PV × PV),es[j]? = some p → es'[j]? = some p' → Ren ρ p.1 p'.1 ∧ Ren ρ p.2 p'.2
 | _,_=>False
theorem RenObjD.ren {ρ : List Nat} {o o' : PObj} (h : RenObjD ρ o o') : RenObj ρ o o':=by
 cases o <;> cases o' <;> first | exact .dead | exact h.elim | skip
 ·obtain ⟨rfl,h1,h2⟩ := h
  exact .rows h1 fun r row row' hr hr'=>(h2 r row row' hr hr').get
 ·obtain ⟨rfl,rfl⟩:=h;exact .iter
 ·exact .map h.1 h.2
def StoreRen (ρ : List Nat) (s : Store) : List PObj → List Nat → Prop
 | [],[]=>True
 | o' :: r',i :: ri=>(∃ o,s[i]? = some o ∧ RenObjD ρ o' o) ∧ StoreRen ρ s r' ri
 | _,_=>False
theorem StoreRen.get {ρ : List Nat} : ∀ (s' : List PObj) (is : List Nat),StoreRen ρ s s' is → s'.length = is.length ∧ ∀ (i : Nat) (o' : PObj),s'[i]? = some o' → ∃ j o,is[i]? = some j ∧ s[j]? = some o ∧ RenObj ρ o' o:=by
 intro s'
 induction s' with
 | nil=>intro is h;cases is with | nil=>exact ⟨rfl,fun i o h=>by simp at h⟩ | cons=>exact h.elim
 | cons o' r' ih=>
  intro is h
  cases is with
  | nil=>exact h.elim
  | cons i ri=>
   obtain ⟨⟨o,h1,h2⟩,h3⟩:=h
   obtain ⟨h4,h5⟩:=ih ri h3
   refine ⟨by simp [h4],fun k x hk=>?_⟩
   cases k with
   | zero=>simp at hk;subst hk;exact ⟨i,o,rfl,h1,h2.ren⟩
   | succ k=>simpa using h5 k x (by simpa using hk)
def RenEnv (ρ : List Nat) (e : Env) : List (Nat × PV) → Prop
 | []=>True
 | (n,v) :: r=>Ren ρ v (e n) ∧ RenEnv ρ e r
theorem RenEnv.get {ρ : List Nat} : ∀ (l : List (Nat × PV)),RenEnv ρ e l → ∀ p ∈ l,Ren ρ p.2 (e p.1)
 | [],_,p,hp=>by cases hp
 | (n,v) :: r,h,p,hp=>by
  cases hp with
  | head=>exact h.1
  | tail _ hp=>exact RenEnv.get r h.2 p hp
theorem View.of (ρ : List Nat) (l : List (Nat × PV)) (hm : ∀ i,i < m → ρ[i]? = some i) (hnd : ρ.Nodup) (hobj : StoreRen ρ s s' ρ) (he : RenEnv ρ e l) : ViewL m e s l s':=
 .norm ρ hm hnd (StoreRen.get s' ρ hobj).1 (StoreRen.get s' ρ hobj).2 l (RenEnv.get l he)
section
variable {ρ : List Nat}
theorem ren_int {k k' : IntKind} {n n' : Int} : Ren ρ (.int k n) (.int k' n') ↔ k = k' ∧ n = n':=⟨fun h=>by cases h;exact ⟨rfl,rfl⟩,fun ⟨h,g⟩=>by subst h g;exact .int⟩
theorem ren_bool {b b' : Bool} : Ren ρ (.bool b) (.bool b') ↔ b = b':=⟨fun h=>by cases h;rfl,fun h=>by subst h;exact .bool⟩
theorem ren_str {b b' : ByteArray} : Ren ρ (.str b) (.str b') ↔ b = b':=⟨fun h=>by cases h;rfl,fun h=>by subst h;exact .str⟩
theorem ren_list {b b' : List (List PV)} : Ren ρ (.list b) (.list b') ↔ b = b':=⟨fun h=>by cases h;rfl,fun h=>by subst h;exact .list⟩
theorem ren_iptr {b b' : List PV} : Ren ρ (.iptr b) (.iptr b') ↔ b = b':=⟨fun h=>by cases h;rfl,fun h=>by subst h;exact .iptr⟩
theorem ren_nilsl : Ren ρ .nilsl .nilsl ↔ True:=⟨fun _=>trivial,fun _=>.nilsl⟩
theorem ren_nilptr : Ren ρ .nilptr .nilptr ↔ True:=⟨fun _=>trivial,fun _=>.nilptr⟩
theorem ren_niliface : Ren ρ .niliface .niliface ↔ True:=⟨fun _=>trivial,fun _=>.niliface⟩
theorem ren_nilfn : Ren ρ .nilfn .nilfn ↔ True:=⟨fun _=>trivial,fun _=>.nilfn⟩
theorem ren_any {v : PV} : Ren ρ .any v ↔ True:=⟨fun _=>trivial,fun _=>.any⟩
theorem ren_sl {i off len j off' len' : Nat} : Ren ρ (.sl i off len) (.sl j off' len') ↔ ρ[i]? = some j ∧ off = off' ∧ len = len':=⟨fun h=>by cases h;exact ⟨‹_›,rfl,rfl⟩,fun ⟨h,g,k⟩=>by subst g k;exact .sl h⟩
theorem ren_ptr {i off len j off' len' : Nat} : Ren ρ (.ptr i off len) (.ptr j off' len') ↔ ρ[i]? = some j ∧ off = off' ∧ len = len':=⟨fun h=>by cases h;exact ⟨‹_›,rfl,rfl⟩,fun ⟨h,g,k⟩=>by subst g k;exact .ptr h⟩
theorem RenL.of_get : ∀ {xs ys : List PV},xs.length = ys.length → (∀ (k : Nat) (x y : PV),xs[k]? = some x → ys[k]? = some y → Ren ρ x y) → RenL ρ xs ys:=by
 intro xs
 induction xs with
 | nil=>intro ys h _;cases ys with | nil=>trivial | cons=>simp at h
 | cons a as ih=>
  intro ys h g
  cases ys with
  | nil=>simp at h
  | cons b bs=>exact ⟨g 0 a b rfl rfl,ih (by simpa using h) fun k x y hx hy=>g (k + 1) x y (by simpa using hx) (by simpa using hy)⟩
theorem ren_agg {xs ys : List PV} : Ren ρ (.agg xs) (.agg ys) ↔ RenL ρ xs ys:=⟨fun h=>by cases h;exact .of_get ‹_› ‹_›,fun h=>.agg h.get.1 h.get.2⟩
theorem ren_tuple {xs ys : List PV} : Ren ρ (.tuple xs) (.tuple ys) ↔ RenL ρ xs ys:=⟨fun h=>by cases h;exact .of_get ‹_› ‹_›,fun h=>.tuple h.get.1 h.get.2⟩
theorem ren_fn {f f' : Fn} {xs ys xs' ys' : List PV} : Ren ρ (.fn f xs xs') (.fn f' ys ys') ↔ f = f' ∧ RenL ρ xs ys ∧ RenL ρ xs' ys':=
 ⟨fun h=>by cases h;exact ⟨rfl,.of_get ‹_› ‹_›,.of_get ‹_› ‹_›⟩,fun ⟨h,g,k⟩=>by subst h;exact .fn g.get.1 g.get.2 k.get.1 k.get.2⟩
theorem renRows_cons_iff {a b : List PV} {as bs : List (List PV)} : RenRows ρ (a :: as) (b :: bs) ↔ RenL ρ a b ∧ RenRows ρ as bs:=
 ⟨fun h=>⟨h.2 0 a b rfl rfl,by have:=h.1;simpa using this,fun r row row' hr hr'=>h.2 (r + 1) row row' (by simpa using hr) (by simpa using hr')⟩,fun h=>renRows_cons h.1 h.2⟩
theorem renRows_nil_iff {rs : List (List PV)} : RenRows ρ [] rs ↔ True:=⟨fun _=>trivial,fun _=>renRows_nil⟩
end
end
end Go.Pv
