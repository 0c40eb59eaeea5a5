import Derived.Test.YtbimioonhfhflaaDPvQc
set_option linter.unusedVariables false
set_option linter.unusedSimpArgs false
namespace Go.Pv
open Go
def xres (P : Program) (E : Env) (s : Store) : List ResultVar → Option (List PV)
 | []=>some []
 | .tmp t :: r=>(xres P E s r).map fun vs=>E t :: vs
 | .cell a T :: r=>(tinfo P T).bind fun ti=>(xload ti s (E a)).bind fun v=>(xres P E s r).map fun vs=>v :: vs
def wfin (P : Program) (rs : List ResultVar) (fin : PV → Store → Prop) : KA:=fun x e s=>match x with
 | .normal=>Sat (xres P (envOf e) s rs) fun vs=>fin (retV vs) s
 | .ret=>Sat (xres P (envOf e) s rs) fun vs=>fin (retV vs) s
 | _=>False
def argsA : Nat → List PV → AE
 | _,[]=>[]
 | n,v :: r=>(n,v) :: argsA (n + 1) r
section
variable {P : Program} {N m : Nat} {s : Store}
theorem wres_of {E : Env} : ∀ (rs : List ResultVar) (vs : List PV) (k : List PV → Prop),xres P E s rs = some vs → k vs → WRes P E s rs k
 | [],vs,k,h,hk=>by cases h;exact hk
 | .tmp t :: r,vs,k,h,hk=>by
  obtain ⟨ws,h1,rfl⟩:=Option.map_eq_some_iff.1 h
  exact wres_of r ws _ h1 hk
 | .cell a T :: r,vs,k,h,hk=>by
  obtain ⟨ti,h1,h2⟩:=Option.bind_eq_some_iff.1 h
  obtain ⟨v,h3,h4⟩:=Option.bind_eq_some_iff.1 h2
  obtain ⟨ws,h5,rfl⟩:=Option.map_eq_some_iff.1 h4
  exact ⟨ti,h1,wload_of h3 (wres_of r ws _ h5 hk)⟩
theorem argsA_get : ∀ (l : List PV) (n t : Nat),envOf (argsA n l) t = if n ≤ t then (l[t - n]?).getD .any else .any
 | [],n,t=>by simp [argsA,envOf]
 | v :: r,n,t=>by
  simp only [argsA,envOf]
  by_cases h : t = n
  ·subst h;simp
  ·rw [if_neg h,argsA_get r (n + 1) t]
   by_cases h2 : n ≤ t
   ·rw [if_pos (by omega),if_pos h2]
    obtain ⟨j,rfl⟩ : ∃ j,t = n + 1 + j:=⟨t - (n + 1),by omega⟩
    rw [show n + 1 + j - (n + 1) = j by omega,show n + 1 + j - n = j + 1 by omega];rfl
   ·rw [if_neg (by omega),if_neg h2]
theorem callq_S {f : FuncId} {fn : Func} {c : Code} {args : List PV} {v : PV} {s' : Store} {A : Ann} (hf : P.funcs[f]? = some fn) (hb : fn.body = some c) (hN : fn.ntmps = N) (hlen : args.length ≤ N)
  (hmix : P.follows .mixedOrders = true) (hchk : chkC N A c = true) (fin : PV → Store → Prop) (hfin : ∀ v1 s1,fin v1 s1 → RetView s.length v1 s1 v s') (h : wexec P s.length A (lt c) (argsA 0 args) s (wfin P fn.results.toList fin)) : CallOK P f args s v s':=by
 intro pub σ w cargs hbase hargs
 refine calls_of_wp hf hb ?_
 have hER : ER pub σ ⟨N,[],[]⟩ (envOf (argsA 0 args)) { tmps:=cargs ++ Array.replicate (fn.ntmps - cargs.size) undef,defers:=[] }:=by
  refine ⟨by simp [hN,hargs.1];omega,rfl,fun _ _ h=>(by cases h),fun t=>?_⟩
  rw [argsA_get,if_pos (Nat.zero_le _),Nat.sub_zero]
  by_cases ht : t < args.length
  ·have h1 : args[t]? = some args[t] := List.getElem?_eq_getElem ht
   have h2 : cargs[t]? = some (cargs[t]'(by rw [hargs.1];exact ht)):=Array.getElem?_eq_getElem _
   have h3 : (cargs ++ Array.replicate (fn.ntmps - cargs.size) undef).getD t undef = cargs[t]'(by rw [hargs.1];exact ht):=by
    rw [Array.getD_eq_getD_getElem?,Array.getElem?_append_left (by rw [hargs.1];exact ht),h2];rfl
   rw [h3]
   simp only [h1,Option.getD_some]
   exact hargs.2 t _ _ h1 h2
  ·rw [List.getElem?_eq_none (show args.length ≤ t by omega),Option.getD_none]
   exact .any
 refine wp_mono (wexec_ok (N:=⟨N,[],[]⟩) hmix c _ s _ hchk h ⟨w,pub,σ,dom s σ⟩ pub σ _ w hbase.sig (SR.start hbase) hER) ?_
 rintro x a' w' ⟨E,s0,pub0,σ0,⟨_,e1,s1,hv,hres⟩,hs0,he0⟩
 obtain ⟨pub',σ',hs',he'⟩:=hv _ pub0 σ0 a' w' ⟨N,[],[]⟩ hbase.sig hs0 he0
 have hx : (match x with | .normal | .ret=>True | _=>False) ∧ Sat (xres P (envOf e1) s1 fn.results.toList) fun vs=>fin (retV vs) s1:=by
  cases x <;> first | exact ⟨trivial,hres⟩ | exact hres.elim
 obtain ⟨hx,hres⟩:=hx
 obtain ⟨vs0,hv0,hret⟩:=sat_elim hres
 replace hret:=hfin _ _ hret
 obtain ⟨vs,cs,hk,hrel,hrun⟩:=wres_run hs' he' _ _ (wres_of _ vs0 (fun vs=>RetView s.length (retV vs) s1 v s') hv0 hret)
 have hR : (results fn a'.tmps).run P w' = .ok (if h : cs.toArray.size = 1 then cs.toArray[0] else .tuple cs.toArray) w':=by
  rw [results_eq,Sem.run_bind,Array.mapM_eq_mapM_toList,Sem.run_map,hrun]
  rfl
 have hrv : Rel pub' σ' (retV vs) (if h : cs.toArray.size = 1 then cs.toArray[0] else .tuple cs.toArray):=by
  have hsz:=hrel.1
  match vs,cs,hrel,hsz with
  | [v],[c],hrel,_=>exact hrel.2 0 v c rfl rfl
  | [],[],hrel,_=>exact .tuple hrel.1 hrel.2
  | v1 :: v2 :: vs,c1 :: c2 :: cs,hrel,_=>simpa [retV] using Rel.tuple hrel.1 hrel.2
 obtain ⟨pub'',σ'',hs'',hr''⟩:=hk _ pub' σ' w' _ hbase.sig hs' hrv
 have hgoal : a'.defers = [] ∧ ∃ v₁,(results fn a'.tmps).run P w' = .ok v₁ w' ∧ ∃ cv pub' σ',Ending.returned v₁ = .returned cv ∧ SR ⟨w,pub,σ,dom s σ⟩ pub' σ' s' w' ∧ Rel pub' σ' v cv:=
  ⟨he'.defers,_,hR,_,pub'',σ'',rfl,hs'',hr''⟩
 cases x <;> first | exact hgoal | exact hx.elim
theorem callq_of {f : FuncId} {fn : Func} {c : Code} {args : List PV} {v : PV} (A : Ann) (hf : P.funcs[f]? = some fn) (hb : fn.body = some c) (hN : fn.ntmps = N) (hlen : args.length ≤ N)
  (hmix : P.follows .mixedOrders = true) (hchk : chkC N A c = true) (h : wexec P 0 A (lt c) (argsA 0 args) [] (wfin P fn.results.toList fun v1 s1=>deref s1 6 v1 = v)) : CallOK P f args [] v []:=
 callq_S hf hb hN hlen hmix hchk _ (fun v1 s1 h=>RetView.done 6 h) h
end
section
variable {α β : Type} {P : Program} {m : Nat} {A : Ann}
@[simp] theorem sat_some (a : α) (k : α → Prop) : Sat (some a) k = k a:=rfl
@[simp] theorem sat_none (k : α → Prop) : Sat none k = False:=rfl
@[simp ↓] theorem sat_map (o : Option α) (f : α → β) (k : β → Prop) : Sat (o.map f) k = Sat o fun a=>k (f a):=by cases o <;> rfl
@[simp ↓] theorem sat_bind (o : Option α) (f : α → Option β) (k : β → Prop) : Sat (o.bind f) k = Sat o fun a=>Sat (f a) k:=by cases o <;> rfl
@[simp ↓ high] theorem sat_ite_none (c : Prop) [Decidable c] (x : Option α) (k : α → Prop) : Sat (if c then x else none) k = (c ∧ Sat x k):=by
 by_cases h : c <;> simp [h,Sat]
@[simp high] theorem sat_none_ite (c : Prop) [Decidable c] (x : Option α) (k : α → Prop) : Sat (if c then none else x) k = (¬ c ∧ Sat x k):=by
 by_cases h : c <;> simp [h,Sat]
@[simp] theorem sat_ite (c : Prop) [Decidable c] (x y : Option α) (k : α → Prop) : Sat (if c then x else y) k = ((c → Sat x k) ∧ (¬ c → Sat y k)):=by
 by_cases h : c <;> simp [h]
@[simp] theorem sat_dite (c : Prop) [Decidable c] (x : c → Option α) (k : α → Prop) : Sat (if h : c then x h else none) k = ∃ h : c,Sat (x h) k:=by
 by_cases h : c <;> simp [h,Sat]
section values
variable {n : Nat} {k k' : IntKind} {i : Int} {b : Bool} {t : ByteArray} {xs : List (List PV)} {j off len r : Nat} {cs ds : List PV} {f : Fn} {T : TypeId} {v : PV} {ρ : List Nat}
@[simp] theorem cells_int : cellsP (.int k i) = some [.int k i]:=rfl
@[simp] theorem cells_bool : cellsP (.bool b) = some [.bool b]:=rfl
@[simp] theorem cells_str : cellsP (.str t) = some [.str t]:=rfl
@[simp] theorem cells_nilsl : cellsP .nilsl = some [.nilsl]:=rfl
@[simp] theorem cells_list : cellsP (.list xs) = some [.list xs]:=rfl
@[simp] theorem cells_sl : cellsP (.sl j off len) = some [.sl j off len]:=rfl
@[simp] theorem cells_nilptr : cellsP .nilptr = some [.nilptr]:=rfl
@[simp] theorem cells_ptr : cellsP (.ptr j off len) = some [.ptr j off len]:=rfl
@[simp] theorem cells_iptr : cellsP (.iptr cs) = some [.iptr cs]:=rfl
@[simp] theorem cells_agg : cellsP (.agg cs) = some cs:=rfl
@[simp] theorem cells_fn : cellsP (.fn f cs ds) = some [.fn f cs ds]:=rfl
@[simp] theorem cells_nilfn : cellsP .nilfn = some [.nilfn]:=rfl
@[simp] theorem cells_iface : cellsP (.iface T v) = some [.iface T v]:=rfl
@[simp] theorem cells_niliface : cellsP .niliface = some [.niliface]:=rfl
@[simp] theorem cells_nilmap : cellsP .nilmap = some [.nilmap]:=rfl
@[simp] theorem cells_mapv : cellsP (.mapv j) = some [.mapv j]:=rfl
@[simp] theorem cells_clip {z : Nat} : cellsP (.clip z xs) = some [.clip z xs]:=rfl
@[simp] theorem cells_imap {es : List (PV × PV)} : cellsP (.imap es) = some [.imap es]:=rfl
@[simp] theorem isCell_int : isCell (.int k i) = true:=rfl
@[simp] theorem isCell_bool : isCell (.bool b) = true:=rfl
@[simp] theorem isCell_str : isCell (.str t) = true:=rfl
@[simp] theorem isCell_nilsl : isCell .nilsl = true:=rfl
@[simp] theorem isCell_list : isCell (.list xs) = true:=rfl
@[simp] theorem isCell_sl : isCell (.sl j off len) = true:=rfl
@[simp] theorem isCell_nilptr : isCell .nilptr = true:=rfl
@[simp] theorem isCell_ptr : isCell (.ptr j off len) = true:=rfl
@[simp] theorem isCell_iptr : isCell (.iptr cs) = true:=rfl
@[simp] theorem isCell_fn : isCell (.fn f cs ds) = true:=rfl
@[simp] theorem isCell_nilfn : isCell .nilfn = true:=rfl
@[simp] theorem isCell_iface : isCell (.iface T v) = true:=rfl
@[simp] theorem isCell_niliface : isCell .niliface = true:=rfl
@[simp] theorem isCell_nilmap : isCell .nilmap = true:=rfl
@[simp] theorem isCell_mapv : isCell (.mapv j) = true:=rfl
@[simp] theorem isCell_clip {z : Nat} : isCell (.clip z xs) = true:=rfl
@[simp] theorem isCell_imap {es : List (PV × PV)} : isCell (.imap es) = true:=rfl
@[simp] theorem deref_int {s : Store} : deref s n (.int k i) = .int k i:=by cases n <;> rfl
@[simp] theorem deref_bool {s : Store} : deref s n (.bool b) = .bool b:=by cases n <;> rfl
@[simp] theorem deref_str {s : Store} : deref s n (.str t) = .str t:=by cases n <;> rfl
@[simp] theorem deref_nilsl {s : Store} : deref s n .nilsl = .nilsl:=by cases n <;> rfl
@[simp] theorem deref_list {s : Store} : deref s n (.list xs) = .list xs:=by cases n <;> rfl
@[simp] theorem deref_nilptr {s : Store} : deref s n .nilptr = .nilptr:=by cases n <;> rfl
@[simp] theorem deref_iptr {s : Store} : deref s n (.iptr cs) = .iptr cs:=by cases n <;> rfl
@[simp] theorem deref_nilfn {s : Store} : deref s n .nilfn = .nilfn:=by cases n <;> rfl
@[simp] theorem deref_niliface {s : Store} : deref s n .niliface = .niliface:=by cases n <;> rfl
@[simp] theorem deref_nilmap {s : Store} : deref s n .nilmap = .nilmap:=by cases n <;> rfl
@[simp] theorem deref_clip {s : Store} {z : Nat} : deref s n (.clip z xs) = .clip z xs:=by cases n <;> rfl
@[simp] theorem deref_imap {s : Store} {es : List (PV × PV)} : deref s n (.imap es) = .imap es:=by cases n <;> rfl
@[simp] theorem deref_any {s : Store} : deref s n .any = .any:=by cases n <;> rfl
@[simp] theorem deref_agg {s : Store} : deref s (n + 1) (.agg cs) = .agg (cs.map (deref s n)):=rfl
@[simp] theorem deref_tuple {s : Store} : deref s (n + 1) (.tuple cs) = .tuple (cs.map (deref s n)):=rfl
@[simp] theorem deref_fn {s : Store} : deref s (n + 1) (.fn f cs ds) = .fn f (cs.map (deref s n)) (ds.map (deref s n)):=rfl
@[simp] theorem deref_iface {s : Store} : deref s (n + 1) (.iface T v) = .iface T (deref s n v):=rfl
def derefRows (s : Store) (n off len : Nat) : Option PObj → PV
 | some (.rows z rs)=>if off + len ≤ rs.length then .list (((rs.drop off).take len).map (List.map (deref s n))) else .any
 | _=>.any
@[simp] theorem derefRows_some {s : Store} {z : Nat} {rs : List (List PV)} : derefRows s n off len (some (.rows z rs)) = if off + len ≤ rs.length then .list (((rs.drop off).take len).map (List.map (deref s n))) else .any:=rfl
def derefCells (s : Store) (n r off : Nat) : Option PObj → PV
 | some (.rows z rs)=>match rs[r]? with
  | some row=>if off ≤ row.length then .iptr ((row.drop off).map (deref s n)) else .any
  | none=>.any
 | _=>.any
@[simp] theorem derefCells_some {s : Store} {z : Nat} {rs : List (List PV)} : derefCells s n r off (some (.rows z rs)) = match rs[r]? with
  | some row=>if off ≤ row.length then .iptr ((row.drop off).map (deref s n)) else .any
  | none=>.any:=rfl
@[simp] theorem deref_sl {s : Store} : deref s (n + 1) (.sl j off len) = derefRows s n off len s[j]?:=by
 simp only [deref];generalize s[j]? = o;rcases o with _ | (_ | ⟨z,rs⟩ | _ | _) <;> rfl
@[simp] theorem deref_ptr {s : Store} : deref s (n + 1) (.ptr j r off) = derefCells s n r off s[j]?:=by
 simp only [deref];generalize s[j]? = o;rcases o with _ | (_ | ⟨z,rs⟩ | _ | _) <;> rfl
def derefMap (s : Store) (n : Nat) : Option PObj → PV
 | some (.map es)=>.imap (es.map fun p=>(deref s n p.1,deref s n p.2))
 | _=>.any
@[simp] theorem derefMap_some {s : Store} {es : List (PV × PV)} : derefMap s n (some (.map es)) = .imap (es.map fun p=>(deref s n p.1,deref s n p.2)):=rfl
@[simp] theorem deref_mapv {s : Store} : deref s (n + 1) (.mapv j) = derefMap s n s[j]?:=by
 simp only [deref];generalize s[j]? = o;rcases o with _ | (_ | ⟨z,rs⟩ | _ | _) <;> rfl
@[simp] theorem ren_int' : renN ρ n (.int k i) = .int k i:=by cases n <;> rfl
@[simp] theorem ren_bool' : renN ρ n (.bool b) = .bool b:=by cases n <;> rfl
@[simp] theorem ren_str' : renN ρ n (.str t) = .str t:=by cases n <;> rfl
@[simp] theorem ren_nilsl' : renN ρ n .nilsl = .nilsl:=by cases n <;> rfl
@[simp] theorem ren_list' : renN ρ n (.list xs) = .list xs:=by cases n <;> rfl
@[simp] theorem ren_nilptr' : renN ρ n .nilptr = .nilptr:=by cases n <;> rfl
@[simp] theorem ren_iptr' : renN ρ n (.iptr cs) = .iptr cs:=by cases n <;> rfl
@[simp] theorem ren_nilfn' : renN ρ n .nilfn = .nilfn:=by cases n <;> rfl
@[simp] theorem ren_niliface' : renN ρ n .niliface = .niliface:=by cases n <;> rfl
@[simp] theorem ren_nilmap' : renN ρ n .nilmap = .nilmap:=by cases n <;> rfl
@[simp] theorem ren_clip' {z : Nat} : renN ρ n (.clip z xs) = .clip z xs:=by cases n <;> rfl
@[simp] theorem ren_imap' {es : List (PV × PV)} : renN ρ n (.imap es) = .imap es:=by cases n <;> rfl
def renMap : Option Nat → PV
 | some j=>.mapv j
 | none=>.any
@[simp] theorem renMap_some : renMap (some j) = .mapv j:=rfl
@[simp] theorem renMap_none : renMap none = .any:=rfl
@[simp] theorem ren_mapv' : renN ρ n (.mapv j) = renMap (posn j ρ 0):=by cases n <;> (simp only [renN,ren0];generalize posn j ρ 0 = o;cases o <;> rfl)
@[simp] theorem ren_any' : renN ρ n .any = .any:=by cases n <;> rfl
@[simp] theorem ren_agg' : renN ρ (n + 1) (.agg cs) = .agg (cs.map (renN ρ n)):=rfl
@[simp] theorem ren_tuple' : renN ρ (n + 1) (.tuple cs) = .tuple (cs.map (renN ρ n)):=rfl
@[simp] theorem ren_fn' : renN ρ (n + 1) (.fn f cs ds) = .fn f (cs.map (renN ρ n)) (ds.map (renN ρ n)):=rfl
@[simp] theorem ren_iface' : renN ρ (n + 1) (.iface T v) = .iface T (renN ρ n v):=rfl
def renSl (off len : Nat) : Option Nat → PV
 | some j=>.sl j off len
 | none=>.any
def renPtr (off len : Nat) : Option Nat → PV
 | some j=>.ptr j off len
 | none=>.any
@[simp] theorem renSl_some : renSl off len (some j) = .sl j off len:=rfl
@[simp] theorem renSl_none : renSl off len none = .any:=rfl
@[simp] theorem renPtr_some : renPtr off len (some j) = .ptr j off len:=rfl
@[simp] theorem renPtr_none : renPtr off len none = .any:=rfl
@[simp] theorem ren_sl' : renN ρ n (.sl j off len) = renSl off len (posn j ρ 0):=by cases n <;> (simp only [renN,ren0];generalize posn j ρ 0 = o;cases o <;> rfl)
@[simp] theorem ren_ptr' : renN ρ n (.ptr j off len) = renPtr off len (posn j ρ 0):=by cases n <;> (simp only [renN,ren0];generalize posn j ρ 0 = o;cases o <;> rfl)
@[simp] theorem renObj_dead : renObj ρ .dead = .dead:=rfl
@[simp] theorem renObj_iter : renObj ρ (.iter t n) = .iter t n:=rfl
@[simp] theorem renObj_map {es : List (PV × PV)} : renObj ρ (.map es) = .map (es.map fun p=>(renN ρ 4 p.1,renN ρ 4 p.2)):=rfl
@[simp] theorem renObj_rows : renObj ρ (.rows n xs) = .rows n (xs.map (List.map (renN ρ 4))):=rfl
@[simp] theorem refs_int : refsN n (.int k i) = []:=by cases n <;> rfl
@[simp] theorem refs_bool : refsN n (.bool b) = []:=by cases n <;> rfl
@[simp] theorem refs_str : refsN n (.str t) = []:=by cases n <;> rfl
@[simp] theorem refs_nilsl : refsN n .nilsl = []:=by cases n <;> rfl
@[simp] theorem refs_list : refsN n (.list xs) = []:=by cases n <;> rfl
@[simp] theorem refs_nilptr : refsN n .nilptr = []:=by cases n <;> rfl
@[simp] theorem refs_iptr : refsN n (.iptr cs) = []:=by cases n <;> rfl
@[simp] theorem refs_nilfn : refsN n .nilfn = []:=by cases n <;> rfl
@[simp] theorem refs_niliface : refsN n .niliface = []:=by cases n <;> rfl
@[simp] theorem refs_nilmap : refsN n .nilmap = []:=by cases n <;> rfl
@[simp] theorem refs_clip {z : Nat} : refsN n (.clip z xs) = []:=by cases n <;> rfl
@[simp] theorem refs_imap {es : List (PV × PV)} : refsN n (.imap es) = []:=by cases n <;> rfl
@[simp] theorem refs_mapv : refsN (n + 1) (.mapv j) = [(j,true)]:=rfl
@[simp] theorem refs_any : refsN n .any = []:=by cases n <;> rfl
@[simp] theorem refs_sl : refsN (n + 1) (.sl j off len) = [(j,false)]:=rfl
@[simp] theorem refs_ptr : refsN (n + 1) (.ptr j off len) = [(j,true)]:=rfl
@[simp] theorem refs_agg : refsN (n + 1) (.agg cs) = cs.flatMap (refsN n):=rfl
@[simp] theorem refs_tuple : refsN (n + 1) (.tuple cs) = cs.flatMap (refsN n):=rfl
@[simp] theorem refs_fn : refsN (n + 1) (.fn f cs ds) = cs.flatMap (refsN n) ++ ds.flatMap (refsN n):=rfl
@[simp] theorem refs_iface : refsN (n + 1) (.iface T v) = refsN n v:=rfl
@[simp] theorem retV_one : retV [v] = v:=rfl
@[simp] theorem retV_none : retV [] = .tuple []:=rfl
@[simp] theorem retV_more {v' : PV} : retV (v :: v' :: cs) = .tuple (v :: v' :: cs):=rfl
@[simp] theorem isDst_nil : isDst .nilsl = true:=rfl
@[simp] theorem isDst_sl : isDst (.sl j off len) = true:=rfl
@[simp] theorem killP_nil {s : Store} : killP s .nilsl = s:=rfl
@[simp] theorem killP_sl {s : Store} : killP s (.sl j off len) = s.set j .dead:=rfl
theorem bin_int {ti : TI} {op : BinOp} {a c : Int} (h : (op == .shl || op == .shr) = false:=by rfl) : binP ti op (.int k a) (.int k c) = intP op k a c:=by
 cases op <;> first | (cases h;done) | (simp [binP])
@[simp] theorem bin_add {ti : TI} {a c : Int} : binP ti .add (.int k a) (.int k c) = intP .add k a c:=bin_int
@[simp] theorem bin_sub {ti : TI} {a c : Int} : binP ti .sub (.int k a) (.int k c) = intP .sub k a c:=bin_int
@[simp] theorem bin_mul {ti : TI} {a c : Int} : binP ti .mul (.int k a) (.int k c) = intP .mul k a c:=bin_int
@[simp] theorem bin_quo {ti : TI} {a c : Int} : binP ti .quo (.int k a) (.int k c) = intP .quo k a c:=bin_int
@[simp] theorem bin_rem {ti : TI} {a c : Int} : binP ti .rem (.int k a) (.int k c) = intP .rem k a c:=bin_int
@[simp] theorem bin_eql {ti : TI} {a c : Int} : binP ti .eql (.int k a) (.int k c) = some (.bool (decide (a = c))):=by rw [bin_int];simp [intP];rfl
@[simp] theorem bin_neq {ti : TI} {a c : Int} : binP ti .neq (.int k a) (.int k c) = some (.bool (!decide (a = c))):=by rw [bin_int];simp [intP];rfl
@[simp] theorem bin_lss {ti : TI} {a c : Int} : binP ti .lss (.int k a) (.int k c) = intP .lss k a c:=bin_int
@[simp] theorem bin_leq {ti : TI} {a c : Int} : binP ti .leq (.int k a) (.int k c) = intP .leq k a c:=bin_int
@[simp] theorem bin_gtr {ti : TI} {a c : Int} : binP ti .gtr (.int k a) (.int k c) = intP .gtr k a c:=bin_int
@[simp] theorem bin_geq {ti : TI} {a c : Int} : binP ti .geq (.int k a) (.int k c) = intP .geq k a c:=bin_int
def andI (k : IntKind) (a b : Int) : Int:=k.wrap ((BitVec.ofInt k.bits a &&& BitVec.ofInt k.bits b).toNat)
def orI (k : IntKind) (a b : Int) : Int:=k.wrap ((BitVec.ofInt k.bits a ||| BitVec.ofInt k.bits b).toNat)
def xorI (k : IntKind) (a b : Int) : Int:=k.wrap ((BitVec.ofInt k.bits a ^^^ BitVec.ofInt k.bits b).toNat)
def andNotI (k : IntKind) (a b : Int) : Int:=k.wrap ((BitVec.ofInt k.bits a &&& ~~~ BitVec.ofInt k.bits b).toNat)
def shlI (k : IntKind) (a b : Int) : Int:=k.wrap (a * 2 ^ (min b.toNat k.bits))
def shrI (k : IntKind) (a b : Int) : Int:=a.fdiv (2 ^ (min b.toNat k.bits))
@[simp] theorem bin_and {ti : TI} {a c : Int} : binP ti .and (.int k a) (.int k c) = some (.int k (andI k a c)):=bin_int
@[simp] theorem bin_or {ti : TI} {a c : Int} : binP ti .or (.int k a) (.int k c) = some (.int k (orI k a c)):=bin_int
@[simp] theorem bin_xor {ti : TI} {a c : Int} : binP ti .xor (.int k a) (.int k c) = some (.int k (xorI k a c)):=bin_int
@[simp] theorem bin_andNot {ti : TI} {a c : Int} : binP ti .andNot (.int k a) (.int k c) = some (.int k (andNotI k a c)):=bin_int
@[simp] theorem bin_shl {ti : TI} {a c : Int} : binP ti .shl (.int k a) (.int k' c) = if c < 0 then none else some (.int k (shlI k a c)):=rfl
@[simp] theorem bin_shr {ti : TI} {a c : Int} : binP ti .shr (.int k a) (.int k' c) = if c < 0 then none else some (.int k (shrI k a c)):=rfl
@[simp] theorem bin_str {ti : TI} {op : BinOp} {a c : ByteArray} : binP ti op (.str a) (.str c) = strP op a c:=rfl
section types
variable {sz : Nat} {ag : Bool} {zo : Option (List PV)} {eq : Option (List (Nat × TK))} {el esz by' : Nat} {ge : Bool} {z : List PV} {ze : Option (List PV)} {s : Store} {fs : List (Nat × Nat × Nat × Bool)} {kd : TK}
@[simp] theorem bin_agg_eql {l : List (Nat × TK)} : binP ⟨sz,ag,zo,kd,some l⟩ .eql (.agg cs) (.agg ds) = (plainEqAt l cs ds).map fun t=>.bool t:=rfl
@[simp] theorem bin_agg_neq {l : List (Nat × TK)} : binP ⟨sz,ag,zo,kd,some l⟩ .neq (.agg cs) (.agg ds) = (plainEqAt l cs ds).map fun t=>.bool (!t):=rfl
@[simp] theorem bin_nil_eql : binP ⟨sz,ag,zo,.slice el esz by' ge ze,eq⟩ .eql .nilsl .nilsl = some (.bool true):=rfl
@[simp] theorem bin_nil_neq : binP ⟨sz,ag,zo,.slice el esz by' ge ze,eq⟩ .neq .nilsl .nilsl = some (.bool false):=rfl
@[simp] theorem bin_list_eql (h : 0 < xs.length) : binP ⟨sz,ag,zo,.slice el esz by' ge ze,eq⟩ .eql (.list xs) .nilsl = some (.bool false):=by
 cases xs with
 | nil=>cases h
 | cons a r=>rfl
@[simp] theorem bin_list_neq (h : 0 < xs.length) : binP ⟨sz,ag,zo,.slice el esz by' ge ze,eq⟩ .neq (.list xs) .nilsl = some (.bool true):=by
 cases xs with
 | nil=>cases h
 | cons a r=>rfl
@[simp] theorem bin_sl_eql (h : 0 < len) : binP ⟨sz,ag,zo,.slice el esz by' ge ze,eq⟩ .eql (.sl j off len) .nilsl = some (.bool false):=by
 cases len with
 | zero=>cases h
 | succ n=>rfl
@[simp] theorem bin_sl_neq (h : 0 < len) : binP ⟨sz,ag,zo,.slice el esz by' ge ze,eq⟩ .neq (.sl j off len) .nilsl = some (.bool true):=by
 cases len with
 | zero=>cases h
 | succ n=>rfl
@[simp] theorem bin_bool_eql {a c : Bool} : binP ⟨sz,ag,zo,.bool,eq⟩ .eql (.bool a) (.bool c) = some (.bool (a == c)):=rfl
@[simp] theorem bin_bool_neq {a c : Bool} : binP ⟨sz,ag,zo,.bool,eq⟩ .neq (.bool a) (.bool c) = some (.bool (!(a == c))):=rfl
@[simp] theorem plainEq_int {x y : Int} : plainEq (.int k') (.int k x) (.int k y) = some (x == y):=by simp [plainEq]
@[simp] theorem plainEq_bool {x y : Bool} : plainEq .bool (.bool x) (.bool y) = some (x == y):=rfl
@[simp] theorem plainEq_str {x y : ByteArray} : plainEq .string (.str x) (.str y) = some (decide (x = y)):=rfl
@[simp] theorem plainEqAt_nil : plainEqAt [] cs ds = some true:=rfl
@[simp] theorem plainEqAt_cons {o : Nat} {q : List (Nat × TK)} : plainEqAt ((o,kd) :: q) cs ds = (plainEq kd ((cs[o]?).getD .any) ((ds[o]?).getD .any)).bind fun t=>(plainEqAt q cs ds).map fun u=>t && u:=rfl
@[simp] theorem pick_true {a c : PV} : pickV (.bool true) a c = some a:=rfl
@[simp] theorem pick_false {a c : PV} : pickV (.bool false) a c = some c:=rfl
@[simp] theorem pick_known {a c : PV} {p : Prop} [Decidable p] (h : p) : pickV (.bool (decide p)) a c = some a:=by simp [pickV,h]
@[simp] theorem pick_not {a c : PV} {p : Prop} [Decidable p] (h : ¬ p) : pickV (.bool (decide p)) a c = some c:=by simp [pickV,h]
@[simp low] theorem pick_any {a c : PV} {t : Bool} : pickV (.bool t) a c = some (if t = true then a else c):=rfl
@[simp] theorem not_bool : notV (.bool b) = some (.bool !b):=rfl
@[simp] theorem neg_int : negV (.int k i) = some (.int k (k.wrap (0 - i))):=rfl
@[simp] theorem nn_ptr : notNilV (.ptr j r off) = some (.ptr j r off):=rfl
@[simp] theorem nn_iptr : notNilV (.iptr cs) = some (.iptr cs):=rfl
@[simp] theorem ext_tuple : extV (.tuple cs) n = cs[n]?:=rfl
@[simp] theorem fnV_fn {fid : Nat} {args : List PV} : fnV (.fn (.func fid) cs ds) args = some (fid,cs ++ args ++ ds):=rfl
@[simp] theorem growObj_row {cs : List PV} {q : List (List PV)} : growObj (some (.rows n (cs :: q))) = cs.flatMap (refsN 4):=rfl
@[simp] theorem growObj_none : growObj none = []:=rfl
@[simp] theorem growObj_dead : growObj (some .dead) = []:=rfl
@[simp] theorem growObj_iter : growObj (some (.iter t n)) = []:=rfl
@[simp] theorem growObj_map {es : List (PV × PV)} : growObj (some (.map es)) = es.flatMap fun p=>refsN 4 p.2:=rfl
@[simp] theorem xread_agg {row : List PV} : xread ⟨sz,true,zo,kd,eq⟩ row off = if off + sz ≤ row.length then some (.agg ((row.drop off).take sz)) else none:=rfl
@[simp] theorem xread_one {row : List PV} : xread ⟨sz,false,zo,kd,eq⟩ row off = row[off]?:=rfl
theorem withRowT_f {α : Type} {z r : Nat} {rows : List (List PV)} {f : List PV → Option α} : withRowT ⟨sz,false,zo,kd,eq⟩ z rows r f = withRow rows r f:=by unfold withRowT;split <;> simp_all
def loadObj (ti : TI) (r off : Nat) : Option PObj → Option PV
 | some (.rows z rows)=>withRowT ti z rows r fun row=>xread ti row off
 | _=>none
@[simp] theorem loadObj_f : loadObj ⟨sz,false,zo,kd,eq⟩ r off (some (.rows n xs)) = withRow xs r fun row=>row[off]?:=by simp only [loadObj,withRowT_f];rfl
@[simp] theorem loadObj_n {ti : TI} : loadObj ti r off (some (.rows (n + 2) xs)) = withRow xs r fun row=>xread ti row off:=rfl
@[simp] theorem loadObj_1 : loadObj ⟨sz,true,zo,kd,eq⟩ r off (some (.rows 1 xs)) = if r < xs.length then xread ⟨sz,true,zo,kd,eq⟩ (xs.drop r).flatten off else none:=rfl
@[simp] theorem xload_ptr {ti : TI} : xload ti s (.ptr j r off) = loadObj ti r off s[j]?:=by
 simp only [xload];generalize s[j]? = o;rcases o with _ | (_ | ⟨z,rs⟩ | _ | _) <;> rfl
@[simp] theorem xload_iptr {ti : TI} : xload ti s (.iptr cs) = xread ti cs 0:=rfl
def storeObj (ti : TI) (s : Store) (i r off : Nat) (x : PV) : Option PObj → Option Store
 | some (.rows z rows) => (cellsP x).bind fun cs => withRowT ti z rows r fun row =>
   if cs.length = ti.size ∧ off + cs.length ≤ row.length ∧ cs.all isCell = true then some (s.set i (.rows z (putAt ti z rows r (spliceP row off cs)))) else none
 | _=>none
@[simp] theorem storeObj_f : storeObj ⟨sz,false,zo,kd,eq⟩ s j r off v (some (.rows n xs)) = (cellsP v).bind fun cs => withRow xs r fun row =>
   if cs.length = sz ∧ off + cs.length ≤ row.length ∧ cs.all isCell = true then some (s.set j (.rows n (xs.set r (spliceP row off cs)))) else none:=by
 simp only [storeObj,withRowT_f,rowA.2.2.1]
@[simp] theorem storeObj_n {ti : TI} : storeObj ti s j r off v (some (.rows (n + 2) xs)) = (cellsP v).bind fun cs => withRow xs r fun row =>
   if cs.length = ti.size ∧ off + cs.length ≤ row.length ∧ cs.all isCell = true then some (s.set j (.rows (n + 2) (xs.set r (spliceP row off cs)))) else none:=rfl
@[simp] theorem storeObj_1 : storeObj ⟨sz,true,zo,kd,eq⟩ s j r off v (some (.rows 1 xs)) = (cellsP v).bind fun cs => if r < xs.length then
   (if cs.length = sz ∧ off + cs.length ≤ (xs.drop r).flatten.length ∧ cs.all isCell = true then some (s.set j (.rows 1 (xs.take r ++ (spliceP (xs.drop r).flatten off cs).map fun c=>[c]))) else none) else none:=rfl
@[simp] theorem xstore_ptr {ti : TI} : xstore ti s (.ptr j r off) v = storeObj ti s j r off v s[j]?:=by
 simp only [xstore];generalize s[j]? = o;rcases o with _ | (_ | ⟨z,rs⟩ | _ | _) <;> rfl
def iaObj (z j off len : Nat) (i : Int) : Option PObj → Option PV
 | some (.rows z' rows)=>if 0 ≤ i ∧ i < len ∧ z' = z then some (.ptr j (off + i.toNat) 0) else none
 | _=>none
@[simp] theorem iaObj_rows : iaObj esz j off len i (some (.rows n xs)) = if 0 ≤ i ∧ i < len ∧ n = esz then some (.ptr j (off + i.toNat) 0) else none:=rfl
@[simp] theorem xia_sl : xindexAddr ⟨sz,ag,zo,.slice el esz by' ge ze,eq⟩ s (.sl j off len) (.int k i) = iaObj esz j off len i s[j]?:=by
 simp only [xindexAddr];generalize s[j]? = o;rcases o with _ | (_ | ⟨z,rs⟩ | _ | _) <;> rfl
@[simp] theorem xia_list : xindexAddr ⟨sz,ag,zo,.slice el esz by' ge ze,eq⟩ s (.list xs) (.int k i) = if 0 ≤ i then withRow xs i.toNat fun row=>if row.length = esz then some (.iptr row) else none else none:=rfl
@[simp] theorem xia_arr : xindexAddr ⟨sz,ag,zo,.array n el esz ge,eq⟩ s (.ptr j r off) (.int k i) = if 0 ≤ i ∧ i < n then some (.ptr j r (off + i.toNat * esz)) else none:=rfl
@[simp] theorem xia_iarr : xindexAddr ⟨sz,ag,zo,.array n el esz ge,eq⟩ s (.iptr cs) (.int k i) = if 0 ≤ i ∧ i < n ∧ i.toNat * esz ≤ cs.length then some (.iptr (cs.drop (i.toNat * esz))) else none:=rfl
@[simp] theorem xfa_ptr : xfieldAddr ⟨sz,ag,zo,.struct fs,eq⟩ (.ptr j r off) n = (fs[n]?).map fun p=>.ptr j r (off + p.1):=by
 simp only [xfieldAddr];generalize fs[n]? = o;rcases o with _ | ⟨_,_,_,_⟩ <;> rfl
@[simp] theorem xfa_iptr : xfieldAddr ⟨sz,ag,zo,.struct fs,eq⟩ (.iptr cs) n = (fs[n]?).bind fun p=>if p.1 ≤ cs.length then some (.iptr (cs.drop p.1)) else none:=by
 simp only [xfieldAddr];generalize fs[n]? = o;rcases o with _ | ⟨_,_,_,_⟩ <;> rfl
@[simp] theorem xfield_agg : xfield ⟨sz,ag,zo,.struct fs,eq⟩ (.agg cs) n = (fs[n]?).bind fun p=>xread ⟨p.2.2.1,p.2.2.2,none,.other,none⟩ cs p.1:=by
 simp only [xfield];generalize fs[n]? = o;rcases o with _ | ⟨_,_,_,_⟩ <;> rfl
@[simp] theorem xindex_arr {P : Program} : xindex P ⟨sz,ag,zo,.array n el esz ge,eq⟩ (.agg cs) (.int k i) = (tinfo P el).bind fun _=>if 0 ≤ i ∧ i < n then xread ⟨esz,ge,none,.other,none⟩ cs (i.toNat * esz) else none:=rfl
@[simp] theorem xindex_str {P : Program} : xindex P ⟨sz,ag,zo,.string,eq⟩ (.str t) (.int k i) = if 0 ≤ i then (if h : i.toNat < t.size then some (.int .u8 (t[i.toNat].toNat : Int)) else none) else none:=rfl
@[simp] theorem xmake_sl {a c : Int} : xmake ⟨sz,ag,zo,.slice el esz by' ge (some z),eq⟩ s (.int k a) (.int k' c) = if z.length = esz ∧ 0 ≤ a ∧ a ≤ c ∧ (by' : Int) * c ≤ 281474976710656 ∧ c ≤ 9223372036854775807 then some (.sl s.length 0 a.toNat,s ++ [.rows esz (List.replicate a.toNat z)]) else none:=rfl
@[simp] theorem bound_none : boundP none n = some (n : Int):=rfl
@[simp] theorem bound_int : boundP (some (.int k i)) n = some i:=rfl
@[simp] theorem xslice_str {lo hi : Option PV} : xslice ⟨sz,ag,zo,.string,eq⟩ s (.str t) lo hi = (boundP lo 0).bind fun l=>(boundP hi t.size).bind fun hh=>if 0 ≤ l ∧ l ≤ hh ∧ hh ≤ t.size then some (.str (t.extract l.toNat hh.toNat)) else none:=rfl
@[simp] theorem xslice_list {lo hi : Option PV} : xslice ⟨sz,ag,zo,.slice el esz by' ge ze,eq⟩ s (.list xs) lo hi = (boundP lo 0).bind fun l=>(boundP hi xs.length).bind fun hh=>if 0 ≤ l ∧ l ≤ hh ∧ hh ≤ xs.length ∧ ∀ row ∈ xs,row.length = esz then some (.list ((xs.take hh.toNat).drop l.toNat)) else none:=rfl
@[simp] theorem xslice_nil {lo hi : Option PV} : xslice ⟨sz,ag,zo,.slice el esz by' ge ze,eq⟩ s .nilsl lo hi = (boundP lo 0).bind fun l=>(boundP hi 0).bind fun hh=>if 0 ≤ l ∧ l ≤ hh ∧ hh ≤ 0 then some .nilsl else none:=rfl
def saObj (esz j n r off : Nat) (l : Int) (hi : Option PV) : Option PObj → Option PV
 | some (.rows z rows)=>(boundP hi n).bind fun hh=>if 0 ≤ l ∧ l ≤ hh ∧ hh ≤ n ∧ l < n ∧ n ≤ 9223372036854775807 ∧ off = 0 ∧ z = esz ∧ r + n ≤ rows.length then some (.sl j (r + l.toNat) (hh.toNat - l.toNat)) else none
 | _=>none
@[simp] theorem saObj_rows {z : Nat} {l : Int} {hi : Option PV} : saObj esz j n r off l hi (some (.rows z xs)) = (boundP hi n).bind fun hh=>if 0 ≤ l ∧ l ≤ hh ∧ hh ≤ n ∧ l < n ∧ n ≤ 9223372036854775807 ∧ off = 0 ∧ z = esz ∧ r + n ≤ xs.length then some (.sl j (r + l.toNat) (hh.toNat - l.toNat)) else none:=rfl
@[simp] theorem xslice_arr {lo hi : Option PV} : xslice ⟨sz,ag,zo,.array n el esz ge,eq⟩ s (.ptr j r off) lo hi = (boundP lo 0).bind fun l=>saObj esz j n r off l hi s[j]?:=by
 simp only [xslice];generalize s[j]? = o;rcases o with _ | (_ | ⟨z,rs⟩ | _ | _) <;> rfl
@[simp] theorem xslice3_list {lo : Option PV} {hi mx : PV} : xslice3 ⟨sz,ag,zo,.slice el esz by' ge ze,eq⟩ s (.list xs) lo hi mx = (boundP lo 0).bind fun l=>(boundP (some hi) 0).bind fun hh=>(boundP (some mx) 0).bind fun m=>if 0 ≤ l ∧ l ≤ hh ∧ hh ≤ m then (if m ≤ xs.length ∧ ∀ row ∈ xs,row.length = esz then some (if m = hh then .clip esz ((xs.take hh.toNat).drop l.toNat) else .list ((xs.take hh.toNat).drop l.toNat)) else none) else none:=rfl
@[simp] theorem xslice3_nil {lo : Option PV} {hi mx : PV} : xslice3 ⟨sz,ag,zo,.slice el esz by' ge ze,eq⟩ s .nilsl lo hi mx = (boundP lo 0).bind fun l=>(boundP (some hi) 0).bind fun hh=>(boundP (some mx) 0).bind fun m=>if 0 ≤ l ∧ l ≤ hh ∧ hh ≤ m then (if m ≤ 0 then some .nilsl else none) else none:=rfl
def s3Obj (esz j off len : Nat) (l hh m : Int) : Option PObj → Option PV
 | some (.rows z rows)=>if m ≤ len ∧ z = esz then some (.sl j (off + l.toNat) (hh.toNat - l.toNat)) else none
 | _=>none
@[simp] theorem s3Obj_rows {l hh m : Int} : s3Obj esz j off len l hh m (some (.rows n xs)) = if m ≤ len ∧ n = esz then some (.sl j (off + l.toNat) (hh.toNat - l.toNat)) else none:=rfl
@[simp] theorem xslice3_sl {lo : Option PV} {hi mx : PV} : xslice3 ⟨sz,ag,zo,.slice el esz by' ge ze,eq⟩ s (.sl j off len) lo hi mx = (boundP lo 0).bind fun l=>(boundP (some hi) 0).bind fun hh=>(boundP (some mx) 0).bind fun m=>if 0 ≤ l ∧ l ≤ hh ∧ hh ≤ m then s3Obj esz j off len l hh m s[j]? else none:=by
 simp only [xslice3];generalize s[j]? = o;rcases o with _ | (_ | ⟨z,rs⟩ | _ | _) <;> rfl
def slObj (esz j off len : Nat) (l : Int) (hi : Option PV) : Option PObj → Option PV
 | some (.rows z rows)=>(boundP hi len).bind fun hh=>if 0 ≤ l ∧ l ≤ hh ∧ hh ≤ len ∧ z = esz then some (.sl j (off + l.toNat) (hh.toNat - l.toNat)) else none
 | _=>none
@[simp] theorem slObj_rows {l : Int} {hi : Option PV} : slObj esz j off len l hi (some (.rows n xs)) = (boundP hi len).bind fun hh=>if 0 ≤ l ∧ l ≤ hh ∧ hh ≤ len ∧ n = esz then some (.sl j (off + l.toNat) (hh.toNat - l.toNat)) else none:=rfl
@[simp] theorem xslice_sl {lo hi : Option PV} : xslice ⟨sz,ag,zo,.slice el esz by' ge ze,eq⟩ s (.sl j off len) lo hi = (boundP lo 0).bind fun l=>slObj esz j off len l hi s[j]?:=by
 simp only [xslice];generalize s[j]? = o;rcases o with _ | (_ | ⟨z,rs⟩ | _ | _) <;> rfl
@[simp] theorem xbuild_struct {parts : List (Nat × PV)} : xbuild ⟨sz,ag,some z,.struct fs,eq⟩ parts = (fillP (fun i=>(fs[i]?).map fun (f : Nat × Nat × Nat × Bool)=>(f.1,f.2.2.1)) z parts).map .agg:=rfl
@[simp] theorem xbuild_array {parts : List (Nat × PV)} : xbuild ⟨sz,ag,some z,.array n el esz ge,eq⟩ parts = (fillP (fun i=>some (i * esz,esz)) z parts).map .agg:=rfl
@[simp] theorem fillP_nil {place : Nat → Option (Nat × Nat)} : fillP place cs [] = some cs:=rfl
@[simp] theorem fillP_cons {place : Nat → Option (Nat × Nat)} {q : List (Nat × PV)} : fillP place cs ((n,v) :: q) = (place n).bind fun p=>(cellsP v).bind fun ds=>if ds.length = p.2 ∧ p.1 + p.2 ≤ cs.length then fillP place (spliceP cs p.1 ds) q else none:=by
 simp only [fillP]
 cases place n with
 | none=>rfl
 | some p=>cases cellsP v with
  | none=>rfl
  | some ds=>rfl
@[simp] theorem fillRows_nil : fillRows esz xs [] = some xs:=rfl
@[simp] theorem fillRows_cons {q : List (Nat × PV)} : fillRows esz xs ((n,v) :: q) = (cellsP v).bind fun ds=>if ds.length = esz ∧ n < xs.length then fillRows esz (xs.set n ds) q else none:=by
 simp only [fillRows]
 cases cellsP v <;> rfl
@[simp] theorem xbuildSlice_sl {parts : List (Nat × PV)} : xbuildSlice ⟨sz,ag,zo,.slice el esz by' ge (some z),eq⟩ s n parts = if z.length = esz ∧ n * esz ≤ 16777216 ∧ esz ≠ 0 then (fillRows esz (List.replicate n z) parts).map fun rows=>(.sl s.length 0 n,s ++ [.rows esz rows]) else none:=rfl
def srcObj (esz off len : Nat) : Option PObj → Option (List (List PV))
 | some (.rows z rs)=>if z = esz ∧ off + len ≤ rs.length then some ((rs.drop off).take len) else none
 | _=>none
@[simp] theorem srcObj_rows : srcObj esz off len (some (.rows n xs)) = if n = esz ∧ off + len ≤ xs.length then some ((xs.drop off).take len) else none:=rfl
@[simp] theorem xsrc_list : xsrc s esz (.list xs) = some xs:=rfl
@[simp] theorem xsrc_nil : xsrc s esz .nilsl = some []:=rfl
@[simp] theorem xsrc_clip {z : Nat} : xsrc s esz (.clip z xs) = if z = esz then some xs else none:=rfl
@[simp] theorem isDstC_nil : isDstC .nilsl = true:=rfl
@[simp] theorem isDstC_sl : isDstC (.sl j off len) = true:=rfl
@[simp] theorem isDstC_clip {z : Nat} : isDstC (.clip z xs) = true:=rfl
@[simp] theorem isClip_nil : isClip .nilsl = false:=rfl
@[simp] theorem isClip_sl : isClip (.sl j off len) = false:=rfl
@[simp] theorem isClip_list : isClip (.list xs) = false:=rfl
@[simp] theorem isClip_clip {z : Nat} : isClip (.clip z xs) = true:=rfl
@[simp] theorem killP_clip {z : Nat} {s : Store} : killP s (.clip z xs) = s:=rfl
@[simp] theorem xsrc_sl : xsrc s esz (.sl j off len) = srcObj esz off len s[j]?:=by
 simp only [xsrc];generalize s[j]? = o;rcases o with _ | (_ | ⟨z,rs⟩ | _ | _) <;> rfl
@[simp] theorem xappend_sl {v' : PV} : xappend ⟨sz,ag,zo,.slice el esz by' ge (some z),eq⟩ s v v' = if z.length = esz ∧ esz ≠ 0 ∧ by' ≠ 0 ∧ isDstC v = true ∧ isClip v' = false then (xsrc s esz v).bind fun xs => (xsrc s esz v').bind fun ys =>
   if (isClip v = true → ys ≠ []) ∧ (∀ row ∈ ys,row.length = esz ∧ row.all isCell = true) ∧ (xs.length + ys.length) * by' ≤ 140737488355328 then some (.sl s.length 0 (xs.length + ys.length),killP s v ++ [.rows esz (xs ++ ys)]) else none else none:=rfl
def nextObj (s : Store) (i : Nat) : Option PObj → Option (PV × Store)
 | some (.iter t pos)=>if pos < t.size then some (.tuple [.bool true,.int .i64 (pos : Int),.int .i32 ((Utf8.decode t pos).1 : Int)],s.set i (.iter t (pos + (Utf8.decode t pos).2))) else some (.tuple [.bool false],s)
 | _=>none
@[simp] theorem nextObj_iter : nextObj s j (some (.iter t n)) = if n < t.size then some (.tuple [.bool true,.int .i64 (n : Int),.int .i32 ((Utf8.decode t n).1 : Int)],s.set j (.iter t (n + (Utf8.decode t n).2))) else some (.tuple [.bool false],s):=rfl
@[simp] theorem xnext_ptr : xnext s (.ptr j 0 0) = nextObj s j s[j]?:=by
 simp only [xnext];generalize s[j]? = o;rcases o with _ | (_ | ⟨z,rs⟩ | _ | _) <;> rfl
@[simp] theorem xlen_str : xlen ⟨sz,ag,zo,.string,eq⟩ (.str t) = some t.size:=rfl
@[simp] theorem xlen_list : xlen ⟨sz,ag,zo,.slice el esz by' ge ze,eq⟩ (.list xs) = some xs.length:=rfl
@[simp] theorem xlen_sl : xlen ⟨sz,ag,zo,.slice el esz by' ge ze,eq⟩ (.sl j off len) = some len:=rfl
@[simp] theorem xlen_nil : xlen ⟨sz,ag,zo,.slice el esz by' ge ze,eq⟩ .nilsl = some 0:=rfl
variable {P : Program}
@[simp] theorem xcall_len {T : TypeId} : xcall P (.builtin .len) [v] [T] s = (tinfo P T).bind fun ti=>(xlen ti v).map fun (n : Nat)=>(PV.int .i64 (n : Int),s):=rfl
@[simp] theorem xcall_min {a c : Int} {Ts : List TypeId} : xcall P (.builtin .min) [.int k a,.int k c] Ts s = some (.int k (min a c),s):=by
 have : (if c < a then c else a) = min a c:=by omega
 simp [xcall,this]
@[simp] theorem xcall_max {a c : Int} {Ts : List TypeId} : xcall P (.builtin .max) [.int k a,.int k c] Ts s = some (.int k (max a c),s):=by
 have : (if c > a then c else a) = max a c:=by omega
 simp [xcall,this]
@[simp] theorem xcall_append {v' : PV} {T T2 : TypeId} : xcall P (.builtin .append) [v,v'] [T,T2] s = (tinfo P T).bind fun ti=>(tinfo P T2).bind fun ti2=>if notInt ti2.kind = true then xappend ti s v v' else xappN ti s v v':=rfl
@[simp] theorem xappN_nil {i' : Int} : xappN ⟨sz,ag,zo,.slice el esz by' ge (some z),eq⟩ s .nilsl (.int .i64 i') = if z.length = esz ∧ esz ≠ 0 ∧ by' ≠ 0 ∧ 0 ≤ i' ∧ i' * (by' : Int) ≤ 140737488355328 then some (.sl s.length 0 i'.toNat,s ++ [.rows esz (List.replicate i'.toNat z)]) else none:=rfl
@[simp] theorem isSlk_sl : isSlk (.slice el esz by' ge ze) = true:=rfl
@[simp] theorem xcall_cap {T : TypeId} : xcall P (.builtin .cap) [.nilsl] [T] s = (tinfo P T).bind fun ti=>if isSlk ti.kind = true then some (.int .i64 0,s) else none:=rfl
@[simp] theorem xcall_clear {T : TypeId} : xcall P (.builtin .clear) [v] [T] s = (tinfo P T).bind fun ti=>(xclear ti s v).map fun s'=>(.tuple [],s'):=rfl
@[simp] theorem xconv_int {ti : TI} : xconv ti ⟨sz,ag,zo,.int k',eq⟩ (.int k i) = some (.int k' (k'.wrap i)):=rfl
@[simp] theorem xconv_str {ti : TI} : xconv ti ⟨sz,ag,zo,.string,eq⟩ (.int k i) = some (.str (Utf8.encode i)):=rfl
@[simp] theorem xrange_str : xrange ⟨sz,ag,zo,.string,eq⟩ s (.str t) = some (.ptr s.length 0 0,s ++ [.iter t 0]):=rfl
@[simp] theorem ents_nil {s : Store} : entsP s .nilmap = some []:=rfl
@[simp] theorem ents_imap {s : Store} {es : List (PV × PV)} : entsP s (.imap es) = some es:=rfl
def entsO : Option PObj → Option (List (PV × PV))
 | some (.map es)=>some es
 | _=>none
@[simp] theorem entsO_map {es : List (PV × PV)} : entsO (some (.map es)) = some es:=rfl
@[simp] theorem ents_mapv {s : Store} : entsP s (.mapv j) = entsO s[j]?:=by
 simp only [entsP];generalize s[j]? = o;rcases o with _ | (_ | ⟨z,rs⟩ | _ | _) <;> rfl
def mapO (i : Nat) : Option PObj → Option (Nat × List (PV × PV))
 | some (.map es)=>some (i,es)
 | _=>none
@[simp] theorem mapO_map {es : List (PV × PV)} : mapO j (some (.map es)) = some (j,es):=rfl
@[simp] theorem mapAt_mapv {s : Store} : mapAt s (.mapv j) = mapO j s[j]?:=by
 simp only [mapAt];generalize s[j]? = o;rcases o with _ | (_ | ⟨z,rs⟩ | _ | _) <;> rfl
@[simp] theorem xlookup_map {P : Program} {kt et : TypeId} {m x : PV} : xlookup P ⟨sz,ag,zo,.map kt et,eq⟩ s m x = (tinfo P kt).bind fun kti=>if keyKind kti.kind x = true then (entsP s m).bind fun es=>(findP x es 0).bind fun r=>foundP P et r else none:=rfl
@[simp] theorem xupdate_map {P : Program} {kt et : TypeId} {m x : PV} : xupdate P ⟨sz,ag,zo,.map kt et,eq⟩ s m x v = (tinfo P kt).bind fun kti=>if keyKind kti.kind x = true then (mapAt s m).bind fun p=>(findP x p.2 0).bind fun r=>some (s.set p.1 (.map (putP x v p.2 r))) else none:=rfl
@[simp] theorem xdelete_map {P : Program} {kt et : TypeId} {m x : PV} : xdelete P ⟨sz,ag,zo,.map kt et,eq⟩ s m x = (tinfo P kt).bind fun kti=>if keyKind kti.kind x = true then (mapAt s m).bind fun p=>(findP x p.2 0).bind fun r=>some (s.set p.1 (.map (delP p.2 r))) else none:=rfl
@[simp] theorem xcall_delete {T T2 : TypeId} {m x : PV} : xcall P (.builtin .delete) [m,x] [T,T2] s = (tinfo P T).bind fun ti=>(xdelete P ti s m x).map fun s'=>(.tuple [],s'):=rfl
@[simp] theorem delP_some {es : List (PV × PV)} {j : Nat} {v : PV} : delP es (some (j,v)) = es.eraseIdx j:=rfl
@[simp] theorem delP_none {es : List (PV × PV)} : delP es none = es:=rfl
@[simp] theorem kk_int : keyKind (.int k') (.int k i) = true:=rfl
@[simp] theorem kk_str : keyKind .string (.str t) = true:=rfl
@[simp] theorem kk_bool : keyKind .bool (.bool b) = true:=rfl
@[simp] theorem findP_nil : findP v [] n = some none:=rfl
@[simp] theorem foundP_some {P : Program} {et : TypeId} {p : Nat × PV} : foundP P et (some p) = some (p.2,true):=rfl
@[simp] theorem foundP_none {P : Program} {et : TypeId} : foundP P et none = (zvOf P et).map fun z=>(z,false):=rfl
@[simp] theorem putP_some {es : List (PV × PV)} {w : PV} {p : Nat × PV} : putP v w es (some p) = es.set p.1 (v,w):=rfl
@[simp] theorem putP_none {es : List (PV × PV)} {w : PV} : putP v w es none = es ++ [(v,w)]:=rfl
end types
end values
attribute [simp] xclear notInt xop
@[simp] theorem evO_tmp {E : Env} {t : Nat} : evO E (.tmp t) = E t:=rfl
@[simp] theorem evO_const {E : Env} {v : Value} : evO E (.const v) = ofConst 3 v:=rfl
@[simp] theorem evO_func {E : Env} {f : Nat} : evO E (.func f) = .fn (.func f) [] []:=rfl
attribute [simp] ofConst spliceP intP strP putRows tyI zoI zvI
def lk : AE → Nat → PV
 | [],_=>.any
 | (u,v) :: r,t=>if t = u then v else lk r t
@[simp] theorem envOf_lk {e : AE} {t : Nat} : envOf e t = lk e t:=by
 induction e with
 | nil=>rfl
 | cons p r ih=>obtain ⟨u,v⟩:=p;simp only [envOf,lk];rw [ih]
@[simp] theorem lk_nil {t : Nat} : lk [] t = .any:=rfl
@[simp] theorem lk_here {e : AE} {t : Nat} {v : PV} : lk ((t,v) :: e) t = v:=by simp [lk]
@[simp] theorem lk_there {e : AE} {t u : Nat} {v : PV} : lk ((u,v) :: e) t = if t = u then v else lk e t:=rfl
attribute [simp] posn grow fnArgs nests xres argsA only voidRow voidRow0
@[simp] theorem follow_ptr {s : Store} {i : Nat} : follow s (.ptr i 0 0) = match s[i]? with
  | some (.rows _ [[w]])=>w
  | _=>.any:=rfl
attribute [simp] lopsL dsts lop nth isRead
@[simp] theorem maxLen_le (n : Nat) : (n ≤ maxLen) = (n ≤ 9223372036854775807):=rfl
end
end Go.Pv
