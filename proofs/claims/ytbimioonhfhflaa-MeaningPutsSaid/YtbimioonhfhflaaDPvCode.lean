import Derived.Test.YtbimioonhfhflaaDPvOpsB
set_option linter.unusedVariables false
set_option linter.unusedSimpArgs false
namespace Go.Pv
open Go Go.RowKit
def WNext (s : Store) (it : PV) (k : PV → Store → Prop) : Prop:=
 ∃ i t pos,it = .ptr i 0 0 ∧ s[i]? = some (.iter t pos) ∧
  (pos < t.size → k (.tuple [.bool true,.int .i64 (pos : Int),.int .i32 ((Utf8.decode t pos).1 : Int)]) (s.set i (.iter t (pos + (Utf8.decode t pos).2)))) ∧ (¬ pos < t.size → k (.tuple [.bool false]) s)
def WCall (P : Program) (c : Callee) (args : List PV) (Ts : List TypeId) (f : PV) (s : Store) (k : PV → Store → Prop) : Prop:=
 match c with
 | .builtin .len=>match args,Ts with
  | [x],[T]=>∃ ti n,tinfo P T = some ti ∧ lenKind ti x = true ∧ lenP x = some n ∧ (n ≤ maxLen → k (.int .i64 (n : Int)) s)
  | _,_=>False
 | .builtin .min=>match args with
  | [x,y]=>∃ kd m n,x = .int kd m ∧ y = .int kd n ∧ k (.int kd (if n < m then n else m)) s
  | _=>False
 | .builtin .max=>match args with
  | [x,y]=>∃ kd m n,x = .int kd m ∧ y = .int kd n ∧ k (.int kd (if n > m then n else m)) s
  | _=>False
 | .builtin .append=>match args,Ts with
  | [x,y],[T,T2]=>∃ ti ti2,tinfo P T = some ti ∧ tinfo P T2 = some ti2 ∧ (match ti2.kind with | .int _=>WAppN ti s x y k | _=>WApp ti s x y k)
  | _,_=>False
 | .builtin .cap=>match args,Ts with
  | [x],[T]=>∃ ti el esz by' ag z,tinfo P T = some ti ∧ ti.kind = .slice el esz by' ag z ∧ x = .nilsl ∧ k (.int .i64 0) s
  | _,_=>False
 | .builtin .clear=>match args,Ts with
  | [x],[T]=>∃ ti,tinfo P T = some ti ∧ WClear ti s x fun s'=>k (.tuple []) s'
  | _,_=>False
 | .builtin .delete=>match args,Ts with
  | [x,y],[T,_]=>∃ ti kt et kti,tinfo P T = some ti ∧ ti.kind = .map kt et ∧ tinfo P kt = some kti ∧ WDelete kti s x y fun s'=>k (.tuple []) s'
  | _,_=>False
 | .value _=>∃ fid xs ys v s',f = .fn (.func fid) xs ys ∧ Enters P fid ∧ CallOK P fid (xs ++ args ++ ys) s v s' ∧ k v s'
 | _=>False
def WOp (P : Program) (op : Op) (e : Env) (s : Store) (k : PV → Store → Prop) : Prop:=
 match op with
 | .move x | .assign x=>k (evO e x) s
 | .pick c a b=>∃ t,evO e c = .bool t ∧ k (if t then evO e a else evO e b) s
 | .alloc T=>∃ z,zeroOf P T = some z ∧ k (.ptr s.length 0 0) (s ++ [.rows z.length [z]])
 | .box T x=>∃ z,cellsP (evO e x) = some z ∧ k (.ptr s.length 0 0) (s ++ [.rows z.length [z]])
 | .load T a=>∃ ti,tinfo P T = some ti ∧ WLoad ti s (evO e a) fun v=>k v s
 | .store T a x=>∃ ti,tinfo P T = some ti ∧ WStore ti s (evO e a) (evO e x) fun s'=>k (.tuple []) s'
 | .binOp b T x y _=>∃ ti v,tinfo P T = some ti ∧ binP ti b (evO e x) (evO e y) = some v ∧ k v s
 | .unOp .not T x=>∃ b,evO e x = .bool b ∧ k (.bool !b) s
 | .unOp .neg T x=>∃ kd n,evO e x = .int kd n ∧ k (.int kd (kd.wrap (0 - n))) s
 | .convert T T' x=>∃ ti ti' kd n v,tinfo P T = some ti ∧ tinfo P T' = some ti' ∧ convP ti'.kind n = some v ∧ evO e x = .int kd n ∧ k v s
 | .extract x n=>∃ vs v,evO e x = .tuple vs ∧ vs[n]? = some v ∧ k v s
 | .fieldAddr T x f=>∃ ti,tinfo P T = some ti ∧ WFieldAddr ti (evO e x) f fun v=>k v s
 | .field T x f=>∃ ti,tinfo P T = some ti ∧ WField ti (evO e x) f fun v=>k v s
 | .indexAddr T x y=>∃ ti,tinfo P T = some ti ∧ WIndexAddr ti s (evO e x) (evO e y) fun v=>k v s
 | .index T x y=>∃ ti,tinfo P T = some ti ∧ WIndex P ti (evO e x) (evO e y) fun v=>k v s
 | .makeSlice T x y=>∃ ti,tinfo P T = some ti ∧ WMake ti s (evO e x) (evO e y) k
 | .slice T x lo hi none=>∃ ti,tinfo P T = some ti ∧ WSlice ti s (evO e x) (lo.map (evO e)) (hi.map (evO e)) fun v=>k v s
 | .slice T x lo (some hi) (some mx)=>∃ ti,tinfo P T = some ti ∧ WSlice3 ti s (evO e x) (lo.map (evO e)) (evO e hi) (evO e mx) fun v=>k v s
 | .build T parts=>∃ ti,tinfo P T = some ti ∧ WBuild ti (parts.toList.map fun p=>(p.1,evO e p.2)) fun v=>k v s
 | .buildSlice T len parts=>∃ ti,tinfo P T = some ti ∧ WBuildSlice ti s len (parts.toList.map fun p=>(p.1,evO e p.2)) k
 | .makeFunc f xs ys=>k (.fn f (xs.toList.map (evO e)) (ys.toList.map (evO e))) s
 | .call c=>WCall P c.callee (c.args.toList.map (evO e)) c.argTypes.toList (match c.callee with | .value f=>evO e f | _=>.any) s k
 | .range T x=>∃ ti t,tinfo P T = some ti ∧ ti.kind = .string ∧ evO e x = .str t ∧ k (.ptr s.length 0 0) (s ++ [.iter t 0])
 | .next it true=>WNext s (evO e it) k
 | .nilCheck x=>notNil (evO e x) = true ∧ k (evO e x) s
 | .makeMap T none=>k (.mapv s.length) (s ++ [.map []])
 | .lookup T x y ok=>∃ ti kt et kti,tinfo P T = some ti ∧ ti.kind = .map kt et ∧ tinfo P kt = some kti ∧ WLookup P kti et s (evO e x) (evO e y) fun v b=>k (if ok = true then .tuple [v,.bool b] else v) s
 | .mapUpdate T x y z=>∃ ti kt et kti,tinfo P T = some ti ∧ ti.kind = .map kt et ∧ tinfo P kt = some kti ∧ WMapUpdate kti s (evO e x) (evO e y) (evO e z) fun s'=>k (.tuple []) s'
 | .insert T x y z=>∃ ti kt et kti,tinfo P T = some ti ∧ ti.kind = .map kt et ∧ tinfo P kt = some kti ∧ WMapUpdate kti s (evO e x) (evO e y) (evO e z) fun s'=>k (.tuple []) s'
 | _=>False
section
variable {P : Program} {N : FrN} {m : Nat} {e : Env} {s : Store} {K : Post}
theorem ok_range {o : Oper} {T : TypeId} {x : Operand} {ti : TI} {t : ByteArray} {k : PV → Store → Prop} (ho : o.op = .range T x) (ht : tinfo P T = some ti) (hk : ti.kind = .string) (hx : evO e x = .str t) (h : k (.ptr s.length 0 0) (s ++ [.iter t 0])) : OpOK P N o e s k:=by
 intro C pub σ a w next Q hs he hn
 obtain ⟨i,d,h1,h2,rfl⟩:=tinfo_some ht
 obtain rfl:=tkOf_string hk
 have hr:=evO_rel he x
 rw [hx] at hr
 obtain ⟨cx,hv⟩ : ∃ cx,a.eval x = cx:=⟨_,rfl⟩
 rw [hv] at hr
 cases hr
 have hle:=hs.toBase.le_add ⟨w.heap.size,0,0,1⟩
 have hrun : (execOp a.eval o).run P w = .ok (.value (.pointer (some ⟨w.heap.size,0,none⟩))) { w with heap:=w.heap.push (.stringIter t 0) }:=by
  simp [execOp,ho,hv,Instr.range,run_underlying' h2]
 refine wp_value hrun (hn _ _ _ pub _ _ h (hs.push _ _ ⟨w.heap.size,0,0,1⟩ rfl ?_) (he.mono PHeap.le.rfl' hle) ?_)
 ·exact ⟨_,Sig.add_same _ _ _,hs.toBase.pub_size (Nat.le_refl _),rfl,rfl,rfl,by simp⟩
 ·simpa using Rel.ptr (pub:=pub) (row:=0) (off:=0) (Sig.add_same σ s.length ⟨w.heap.size,0,0,1⟩)
theorem ok_next {o : Oper} {x : Operand} {k : PV → Store → Prop} (ho : o.op = .next x true) (h : WNext s (evO e x) k) : OpOK P N o e s k:=by
 intro C pub σ a w next Q hs he hn
 obtain ⟨i,t,pos,hx,hi,h1,h2⟩:=h
 have hr:=evO_rel he x
 rw [hx] at hr
 obtain ⟨cx,hv⟩ : ∃ cx,a.eval x = cx:=⟨_,rfl⟩
 rw [hv] at hr
 cases hr with
 | ptr hσ=>
  rename_i l
  obtain ⟨l',hl1,hl2,hl3,hl4,hl5,hl6⟩:=hs.obj i _ hi
  rw [hσ] at hl1;cases hl1
  have hoff : l.o + 0 * l.esz + 0 = 0:=by rw [hl3];simp
  rw [hoff] at hv
  have hlb : l.b < w.heap.size:=(ObjOK.alive hs.obj ⟨_,hi,by simp,hσ,by omega⟩).2
  have hlb' : w.heap[l.b] = .stringIter t pos:=by rw [Array.getElem?_eq_getElem hlb] at hl6;exact Option.some.inj hl6
  have hget : (getObj l.b).run P w = .ok (.stringIter t pos) w:=by simp [getObj,Sem.run,hl6]
  by_cases hp : pos < t.size
  ·have hset : (setObj l.b (.stringIter t (pos + (Utf8.decode t pos).2))).run P w = .ok () { w with heap := w.heap.setIfInBounds l.b (.stringIter t (pos + (Utf8.decode t pos).2)) } := by
    simp [setObj,Sem.run,hl6]
   have hrun : (execOp a.eval o).run P w = .ok (.value (.tuple #[.bool true,.int .i64 (pos : Int),.int .i32 ((Utf8.decode t pos).1 : Int)])) { w with heap:=w.heap.setIfInBounds l.b (.stringIter t (pos + (Utf8.decode t pos).2)) }:=by
    simp only [execOp,ho,hv,Instr.next,Sem.run_bind,hget,Result.andThen_ok,hp,if_true,hset,Sem.run_pure,goInt]
   refine wp_value hrun (hn _ _ _ pub σ _ (h1 hp) (hs.write hi (by simp) hσ (by omega) _ _ (by simp) ?_) he ?_)
   ·exact ⟨l,hσ,hl2,hl3,hl4,hl5,by simp [Array.getElem?_setIfInBounds,hlb]⟩
   ·refine .tuple rfl fun j v c hv' hc => ?_
    match j,hv',hc with
    | 0,hv',hc=>simp at hv' hc;subst hv' hc;exact .bool
    | 1,hv',hc=>simp at hv' hc;subst hv' hc;exact .int
    | 2,hv',hc=>simp at hv' hc;subst hv' hc;exact .int
    | j + 3,hv',hc=>simp at hv'
  ·have hrun : (execOp a.eval o).run P w = .ok (.value (.tuple #[.bool false])) w := by
    simp only [execOp,ho,hv,Instr.next,Sem.run_bind,hget,Result.andThen_ok,hp,if_false,Sem.run_pure]
   refine wp_value hrun (hn _ _ _ pub σ _ (h2 hp) hs he ?_)
   refine .tuple rfl fun j v c hv' hc=>?_
   match j,hv',hc with
   | 0,hv',hc=>simp at hv' hc;subst hv' hc;exact .bool
   | j + 1,hv',hc=>simp at hv'
theorem wop_ok {o : Oper} {k : PV → Store → Prop} (h : WOp P o.op e s k) : OpOK P N o e s k:=by
 obtain ⟨od,op,ot,opos,oaf,og⟩:=o
 cases op <;> simp only [WOp] at h <;> first | exact h.elim | skip
 case move x=>exact .read (ok_move (.inl rfl) h)
 case assign x=>exact .read (ok_move (.inr rfl) h)
 case pick c a b=>obtain ⟨t,h1,h2⟩:=h;exact .read (ok_pick rfl h1 h2)
 case alloc T=>obtain ⟨z,h1,h2⟩:=h;exact ok_alloc rfl h1 h2
 case box T x=>obtain ⟨z,h1,h2⟩:=h;exact ok_box rfl h1 h2
 case build T parts=>obtain ⟨ti,h1,h2⟩:=h;exact .read (ok_build rfl h1 h2)
 case buildSlice T len parts=>obtain ⟨ti,h1,h2⟩:=h;exact ok_buildSlice rfl h1 h2
 case load T a=>obtain ⟨ti,h1,h2⟩:=h;exact .read (ok_load rfl h1 h2)
 case store T a x=>obtain ⟨ti,h1,h2⟩:=h;exact ok_store rfl h1 h2
 case binOp b T x y T'=>obtain ⟨ti,v,h1,h2,h3⟩:=h;exact .read (ok_binOp rfl h1 h2 h3)
 case unOp u T x=>
  cases u <;> simp only at h <;> first | exact h.elim | skip
  ·obtain ⟨kd,n,h1,h2⟩:=h;exact .read (ok_neg rfl h1 h2)
  ·obtain ⟨b,h1,h2⟩:=h;exact .read (ok_unOp rfl rfl h1 h2)
 case convert T T' x=>obtain ⟨ti,ti',kd,n,v,h1,h2,h3,h4,h5⟩:=h;exact .read (ok_conv rfl h1 h2 h3 h4 h5)
 case makeFunc f xs ys=>exact .read (ok_makeFunc rfl h)
 case makeSlice T x y=>obtain ⟨ti,h1,h2⟩:=h;exact ok_make rfl h1 h2
 case slice T x lo hi mx=>
  cases mx with
  | none=>obtain ⟨ti,h1,h2⟩:=h;exact .read (ok_slice rfl h1 h2)
  | some mx=>cases hi with
   | none=>exact h.elim
   | some hi=>obtain ⟨ti,h1,h2⟩:=h;exact .read (ok_slice3 rfl h1 h2)
 case fieldAddr T x f=>obtain ⟨ti,h1,h2⟩:=h;exact .read (ok_fieldAddr rfl h1 h2)
 case field T x f=>obtain ⟨ti,h1,h2⟩:=h;exact .read (ok_field rfl h1 h2)
 case indexAddr T x y=>obtain ⟨ti,h1,h2⟩:=h;exact .read (ok_indexAddr rfl h1 h2)
 case index T x y=>obtain ⟨ti,h1,h2⟩:=h;exact .read (ok_index rfl h1 h2)
 case range T x=>obtain ⟨ti,t,h1,h2,h3,h4⟩:=h;exact ok_range rfl h1 h2 h3 h4
 case next it b=>
  cases b with
  | true=>exact ok_next rfl h
  | false=>exact h.elim
 case nilCheck x=>exact .read (ok_nilCheck rfl h.1 h.2)
 case makeMap T r=>
  cases r with
  | none=>exact ok_makeMap rfl h
  | some r=>exact h.elim
 case lookup T x y b=>obtain ⟨ti,kt,et,kti,h1,h2,h3,h4⟩:=h;exact .read (ok_lookup rfl h1 h2 h3 h4)
 case mapUpdate T x y z=>obtain ⟨ti,kt,et,kti,h1,h2,h3,h4⟩:=h;exact ok_mapUpdate (.inl rfl) h1 h2 h3 h4
 case insert T x y z=>obtain ⟨ti,kt,et,kti,h1,h2,h3,h4⟩:=h;exact ok_mapUpdate (.inr rfl) h1 h2 h3 h4
 case extract x n=>obtain ⟨vs,v,h1,h2,h3⟩:=h;exact .read (ok_extract rfl h1 h2 h3)
 case call c=>
  obtain ⟨cc,cargs,cTs⟩:=c
  obtain ⟨cargs⟩:=cargs
  obtain ⟨cTs⟩:=cTs
  simp only at h
  unfold WCall at h
  split at h
  ·split at h
   ·rename_i x T hx
    cases cargs with
    | nil=>simp at hx
    | cons c0 cr=>
     simp only [List.map_cons,List.cons.injEq,List.map_eq_nil_iff] at hx
     obtain ⟨rfl,rfl⟩:=hx
     obtain ⟨ti,n,h1,h2,h3,h4⟩:=h
     exact .read (ok_len (ty:=0) rfl h1 h2 h3 h4)
   ·exact h.elim
  ·split at h
   ·rename_i x y hx
    match cargs,hx with
    | [c0,c1],hx=>
     simp only [List.map_cons,List.map_nil,List.cons.injEq,and_true] at hx
     obtain ⟨h1,h2⟩:=hx
     obtain ⟨kd,m,n,h3,h4,h5⟩:=h
     exact .read (ok_min rfl (h1.trans h3) (h2.trans h4) h5)
   ·exact h.elim
  ·split at h
   ·rename_i x y hx
    match cargs,hx with
    | [c0,c1],hx=>
     simp only [List.map_cons,List.map_nil,List.cons.injEq,and_true] at hx
     obtain ⟨h1,h2⟩:=hx
     obtain ⟨kd,m,n,h3,h4,h5⟩:=h
     exact .read (ok_max rfl (h1.trans h3) (h2.trans h4) h5)
   ·exact h.elim
  ·split at h
   ·rename_i x y T T2 hx
    match cargs,hx with
    | [c0,c1],hx=>
     simp only [List.map_cons,List.map_nil,List.cons.injEq,and_true] at hx
     obtain ⟨rfl,rfl⟩:=hx
     obtain ⟨ti,ti2,h1,h2,h3⟩:=h
     split at h3
     ·exact ok_appendN rfl h1 h2 ‹_› h3
     ·rename_i hk;exact ok_app rfl h1 h2 (fun kd e=>hk _ e) h3
   ·exact h.elim
  ·split at h
   ·rename_i x T hx
    cases cargs with
    | nil=>simp at hx
    | cons c0 cr=>
     simp only [List.map_cons,List.cons.injEq,List.map_eq_nil_iff] at hx
     obtain ⟨rfl,rfl⟩:=hx
     obtain ⟨ti,el,esz,by',ag,z,h1,h2,h3,h4⟩:=h
     exact .read (ok_cap0 rfl h1 h2 h3 h4)
   ·exact h.elim
  ·split at h
   ·rename_i x T hx
    cases cargs with
    | nil=>simp at hx
    | cons c0 cr=>
     simp only [List.map_cons,List.cons.injEq,List.map_eq_nil_iff] at hx
     obtain ⟨rfl,rfl⟩:=hx
     obtain ⟨ti,h1,h2⟩:=h
     exact ok_clear rfl h1 h2
   ·exact h.elim
  ·split at h
   ·rename_i x y T T2 hx
    match cargs,hx with
    | [c0,c1],hx=>
     simp only [List.map_cons,List.map_nil,List.cons.injEq,and_true] at hx
     obtain ⟨rfl,rfl⟩:=hx
     obtain ⟨ti,kt,et,kti,h1,h2,h3,h4⟩:=h
     exact ok_delete rfl h1 h2 h3 h4
   ·exact h.elim
  ·obtain ⟨fid,xs,ys,v,s',h1,h2,h3,h4⟩ := h
   exact ok_call rfl h1 h2 h3 h4
  ·exact h.elim
structure LOp where
 d : Option Tmp
 op : Op
 g : Option (Option Nat × Bool)
def nth {α : Type} : List (Option α) → Nat → Option α
 | [],_=>none
 | x :: _,0=>x
 | _ :: xs,n + 1=>nth xs n
theorem nth_eq {α : Type} (l : List (Option α)) (n : Nat) : nth l n = (l[n]?).bind id:=by
 induction l generalizing n with
 | nil=>rfl
 | cons x xs ih=>cases n <;> simp [nth,ih]
def lop (ds : List (Option Nat)) (o : Oper) : LOp:=⟨o.dst,o.op,match o.guard with | none=>none | some (j,b)=>some (nth ds j,b)⟩
def lopsL (ds : List (Option Nat)) : List Oper → List LOp
 | []=>[]
 | o :: r=>lop ds o :: lopsL ds r
def dsts : List Oper → List (Option Nat)
 | []=>[]
 | o :: r=>o.dst :: dsts r
theorem dsts_eq (l : List Oper) : dsts l = l.map (·.dst):=by induction l <;> simp_all [dsts]
theorem lopsL_eq (ds : List (Option Nat)) (l : List Oper) : lopsL ds l = l.map (lop ds):=by induction l <;> simp_all [lopsL]
inductive LC where
 | skip | ret
 | reg (ops : List LOp) (draw : Bool)
 | seq (a b : LC)
 | cond (c : Operand) (a b : LC)
 | block (id : Nat) (c : LC)
 | loop (c : LC)
 | exit (id : Nat)
 | drawn (ops : Array Oper)
 | other
def regL (ops : Array Oper) : Bool → LC
 | false=>.reg (lopsL (dsts ops.toList) ops.toList) false
 | true=>.drawn ops
def light : Code → LC
 | .skip=>.skip
 | .ret=>.ret
 | .region _ ops draw=>regL ops draw
 | .seq a b=>.seq (light a) (light b)
 | .cond c a b=>.cond c (light a) (light b)
 | .block i c=>.block i (light c)
 | .loop c=>.loop (light c)
 | .exit i=>.exit i
 | _=>.other
def gdV : PV → Option (Option Bool)
 | .bool t=>some (some t)
 | .tuple []=>some none
 | _=>none
def WOps (P : Program) (N : FrN) : List LOp → Env → Store → (Env → Store → Prop) → Prop
 | [],e,s,k=>k e s
 | o :: r,e,s,k=>match o.g with
  | none=>(∀ d,o.d = some d → d ∈ N) ∧ WOp P o.op e s fun v s'=>WOps P N r (e.upd o.d v) s' k
  | some (some d,b)=>(∀ d,o.d = some d → d ∈ N) ∧ ∃ t,gdV (e d) = some t ∧ (t = some b → WOp P o.op e s fun v s'=>WOps P N r (e.upd o.d v) s' k) ∧ (t ≠ some b → WOps P N r (e.upd o.d (.tuple [])) s k)
  | some (none,_)=>False
theorem WOps.call {d : Option Tmp} {f : Operand} {args : Array Operand} {Ts : Array TypeId} {fid : FuncId} {xs ys : List PV} {v : PV} {s' : Store} {r : List LOp} {k : Env → Store → Prop} (hd : ∀ t,d = some t → t ∈ N)
  (hf : evO e f = .fn (.func fid) xs ys) (hen : Enters P fid) (hc : CallOK P fid (xs ++ args.toList.map (evO e) ++ ys) s v s') (h : WOps P N r (e.upd d v) s' k) : WOps P N (⟨d,.call ⟨.value f,args,Ts⟩,none⟩ :: r) e s k:=
 ⟨hd,fid,xs,ys,v,s',hf,hen,hc,h⟩
theorem WOps.step {d : Option Tmp} {op : Op} {r : List LOp} {k : Env → Store → Prop} (hd : ∀ t,d = some t → t ∈ N) (h : ∀ q : PV → Store → Prop,(∀ v s',WOps P N r (e.upd d v) s' k → q v s') → WOp P op e s q) : WOps P N (⟨d,op,none⟩ :: r) e s k:=
 ⟨hd,h _ fun _ _ h=>h⟩
theorem WOps.stop {k : Env → Store → Prop} (h : k e s) : WOps P N [] e s k:=h
theorem WOps.take {d : Option Tmp} {op : Op} {g : Nat} {b : Bool} {r : List LOp} {k : Env → Store → Prop} (h : e g = .bool b) (w : WOps P N (⟨d,op,none⟩ :: r) e s k) : WOps P N (⟨d,op,some (some g,b)⟩ :: r) e s k:=
 ⟨w.1,some b,by rw [h];rfl,fun _=>w.2,fun h'=>absurd rfl h'⟩
theorem WOps.pass {d : Option Tmp} {op : Op} {g : Nat} {b : Bool} {r : List LOp} {k : Env → Store → Prop} (h : e g = .bool (!b)) (hd : ∀ t,d = some t → t ∈ N) (w : WOps P N r (e.upd d (.tuple [])) s k) : WOps P N (⟨d,op,some (some g,b)⟩ :: r) e s k:=
 ⟨hd,some (!b),by rw [h];rfl,fun h'=>(by cases b <;> cases h'),fun _=>w⟩
theorem WOps.part {l : List LOp} {k : Env → Store → Prop} {g : Nat} {t : Bool} (_ : e g = .bool t) (h1 : t = true → WOps P N l e s k) (h2 : t = false → WOps P N l e s k) : WOps P N l e s k:=by
 cases t
 ·exact h2 rfl
 ·exact h1 rfl
theorem WOps.split {d : Option Tmp} {op : Op} {g : Nat} {b : Bool} {r : List LOp} {k : Env → Store → Prop} {t : Bool} (_ : e g = .bool t) (h1 : t = true → WOps P N (⟨d,op,some (some g,b)⟩ :: r) e s k) (h2 : t = false → WOps P N (⟨d,op,some (some g,b)⟩ :: r) e s k) : WOps P N (⟨d,op,some (some g,b)⟩ :: r) e s k:=by
 cases t
 ·exact h2 rfl
 ·exact h1 rfl
theorem ER.put {pub : PHeap} {σ : Sig} {a : Act} {v : PV} {cv : Value} (he : ER pub σ N e a) (d : Option Tmp) (hd : ∀ t,d = some t → t ∈ N) (hr : Rel pub σ v cv) : ER pub σ N (e.upd d v) (a.put d cv):=by
 cases d with
 | none=>exact he
 | some d=>
  have hlt:=(hd d rfl).1
  refine ⟨by simp [Act.put,he.size],he.defers,fun t v hv=>?_,fun t=>?_⟩
  ·have hne : d ≠ t := fun h => (hd d rfl).2 v (h ▸ hv)
   have h2 : (a.put (some d) cv).tmps.getD t undef = a.tmps.getD t undef:=by
    simp only [Act.put,Array.getD_eq_getD_getElem?]
    rw [Array.getElem?_setIfInBounds,if_neg hne]
   rw [h2];exact he.kept t v hv
  by_cases ht : t = d
  ·subst ht
   have h1 : t < (a.put (some t) cv).tmps.size:=by simp [Act.put,he.size,hlt]
   have h2 : (a.put (some t) cv).tmps.getD t undef = cv:=by
    have:=he.size
    simp [Act.put,Array.getD,this,hlt]
   rw [h2];simpa [Env.upd] using hr
  ·have h2 : (a.put (some d) cv).tmps.getD t undef = a.tmps.getD t undef := by
    simp only [Act.put,Array.getD_eq_getD_getElem?]
    rw [Array.getElem?_setIfInBounds,if_neg (by omega)]
   rw [h2];simpa [Env.upd,ht] using he.rel t
theorem rel_bool {pub : PHeap} {σ : Sig} {t : Bool} {c : Value} (h : Rel pub σ (.bool t) c) : c = .bool t:=by cases h;rfl
theorem yield_of {ops : Array Oper} {pub : PHeap} {σ : Sig} {a : Act} {j : Nat} {d : Tmp} {t : Option Bool} (he : ER pub σ N e a) (hdst : (ops[j]?).bind (·.dst) = some d) (ht : gdV (e d) = some t) : yielded ops a.tmps j = t:=by
 have hrel:=he.rel d
 unfold yielded
 rw [hdst]
 simp only [Option.bind_some]
 generalize e d = v at ht hrel
 unfold gdV at ht
 split at ht
 ·cases ht
  have hval:=rel_bool hrel
  cases hx : a.tmps[d]? with
  | none=>
   rw [Array.getD_eq_getD_getElem?,hx] at hval
   simp [undef] at hval
  | some v=>
   rw [Array.getD_eq_getD_getElem?,hx] at hval
   simp at hval
   simp [hval]
 ·cases ht
  cases hx : a.tmps[d]? with
  | none=>rfl
  | some v=>
   rw [Array.getD_eq_getD_getElem?,hx] at hrel
   simp at hrel
   cases hrel;rfl
 ·cases ht
theorem wops_ok {ops : Array Oper} (k : Env → Store → Prop) : ∀ (rest : List Oper) (i : Nat) (e : Env) (s : Store),ops.toList.drop i = rest → WOps P N (lopsL (dsts ops.toList) rest) e s k →
  ∀ C pub σ a w Q,SR C pub σ s w → ER pub σ N e a → (∀ e' s' pub' σ' a' w',k e' s' → SR C pub' σ' s' w' → ER pub' σ' N e' a' → Q .normal a' w') → wpOps P ops Q (List.range' i rest.length) a w:=by
 intro rest
 induction rest with
 | nil=>intro i e s _ h C pub σ a w Q hs he hk;exact hk _ _ _ _ _ _ h hs he
 | cons o rest ih=>
  intro i e s hd h C pub σ a w Q hs he hk
  have hi : ops[i]? = some o:=by
   rw [← Array.getElem?_toList]
   have:=congrArg (·[0]?) hd
   simpa [List.getElem?_drop] using this
  have hd' : ops.toList.drop (i + 1) = rest:=by
   rw [← List.drop_drop,hd];rfl
  simp only [List.length_cons,List.range'_succ,wpOps,hi]
  have go : (∀ d,o.dst = some d → d ∈ N) → (WOp P o.op e s fun v s'=>WOps P N (lopsL (dsts ops.toList) rest) (e.upd o.dst v) s' k) → o.wp P a w (wpOps P ops Q (List.range' (i + 1) rest.length)) Q:=by
   intro hN hw
   refine wop_ok (N:=N) hw C pub σ a w _ _ hs he ?_
   intro v s' cv pub' σ' w' hk' hs' he' hr'
   exact ih (i + 1) _ _ hd' hk' C pub' σ' _ w' Q hs' (he'.put _ hN hr') hk
  simp only [lopsL,lop,WOps] at h
  cases hg : o.guard with
  | none=>
   simp only [hg] at h
   have : Region.wanted o (yielded ops a.tmps) = true:=by simp [Region.wanted,hg]
   rw [if_pos this]
   exact .inl (go h.1 h.2)
  | some g=>
   obtain ⟨j,b⟩:=g
   simp only [hg] at h
   cases hn : nth (dsts ops.toList) j with
   | none=>simp only [hn] at h
   | some d=>
    simp only [hn] at h
    obtain ⟨hN,t,ht,h1,h2⟩:=h
    have hdst : (ops[j]?).bind (·.dst) = some d:=by
     rw [nth_eq,dsts_eq,List.getElem?_map,Array.getElem?_toList] at hn
     cases hx : ops[j]? with
     | none=>simp [hx] at hn
     | some oo=>simpa [hx] using hn
    have hyield:=yield_of he hdst ht
    by_cases htb : t = some b
    ·have : Region.wanted o (yielded ops a.tmps) = true := by simp [Region.wanted,hg,hyield,htb]
     rw [if_pos this]
     exact .inl (go hN (h1 htb))
    ·have : Region.wanted o (yielded ops a.tmps) = false := by simp [Region.wanted,hg,hyield,htb]
     rw [if_neg (by simp [this])]
     exact ih (i + 1) _ _ hd' (h2 htb) C pub σ _ w Q hs (he.put _ hN (.tuple rfl fun j v c h=>by simp at h)) hk
def envOf : List (Nat × PV) → Env
 | [],_=>.any
 | (n,v) :: r,t=>if t = n then v else envOf r t
def EvL (P : Program) (N : FrN) (m : Nat) (lc : LC) (e : Env) (s : Store) (K : Post) : Prop:=∀ c,light c = lc → Ev P N m c e s K
def thenL (P : Program) (N : FrN) (m : Nat) (c : LC) (K : Post) : Post
 | .normal,e,s=>EvL P N m c e s K
 | x,e,s=>K x e s
theorem EvL.reg {ops : List LOp} (h : WOps P N ops e s fun e' s'=>K .normal e' s') : EvL P N m (.reg ops false) e s K:=by
 intro c hc C pub σ a w hm hs he
 cases c <;> simp only [light] at hc <;> first | (cases hc;done) | (rename_i d;cases d <;> simp only [regL] at hc <;> cases hc;done) | skip
 rename_i id ops' draw
 cases draw <;> simp only [regL] at hc <;> first | (cases hc;done) | skip
 simp only [LC.reg.injEq,and_true] at hc
 subst hc
 refine wp_region ?_
 rw [List.range_eq_range']
 have:=wops_ok (P:=P) (N:=N) (ops:=ops') _ ops'.toList 0 e s rfl h C pub σ a w (fun x a' w'=>∃ e' s' pub' σ',K x e' s' ∧ SR C pub' σ' s' w' ∧ ER pub' σ' N e' a') hs he
  (fun e' s' pub' σ' a' w' hk hs' he'=>⟨e',s',pub',σ',hk,hs',he'⟩)
 simpa using this
theorem EvL.regk {ops : List LOp} (h : ∀ k : Env → Store → Prop,(∀ e' s',K .normal e' s' → k e' s') → WOps P N ops e s k) : EvL P N m (.reg ops false) e s K:=.reg (h _ fun _ _ h=>h)
theorem thenL_normal {b : LC} (h : EvL P N m b e s K) : thenL P N m b K .normal e s:=h
theorem thenL_exit {b : LC} {i : Nat} (h : K (.exit i) e s) : thenL P N m b K (.exit i) e s:=h
theorem thenL_ret {b : LC} (h : K .ret e s) : thenL P N m b K .ret e s:=h
theorem blockK_normal {i : Nat} (h : K .normal e s) : blockK i K .normal e s:=h
theorem blockK_ret {i : Nat} (h : K .ret e s) : blockK i K .ret e s:=h
theorem blockK_exit {i : Nat} (h : K .normal e s) : blockK i K (.exit i) e s:=by simp only [blockK,if_true];exact h
theorem blockK_past {i j : Nat} (hij : (j == i) = false) (h : K (.exit j) e s) : blockK i K (.exit j) e s:=by
 have : j ≠ i:=by simpa using hij
 simp only [blockK,this,if_false];exact h
theorem EvL.seq {a b : LC} (h : EvL P N m a e s (thenL P N m b K)) : EvL P N m (.seq a b) e s K:=by
 intro c hc
 cases c <;> simp only [light] at hc <;> first | (cases hc;done) | (rename_i d;cases d <;> simp only [regL] at hc <;> cases hc;done) | skip
 rename_i c1 c2
 cases hc
 refine Ev.seq ((h c1 rfl).mono fun x e s hk=>?_)
 cases x <;> first | exact hk c2 rfl | exact hk
theorem EvL.skip (h : K .normal e s) : EvL P N m .skip e s K:=by
 intro c hc
 cases c <;> simp only [light] at hc <;> first | (cases hc;done) | (rename_i d;cases d <;> simp only [regL] at hc <;> cases hc;done) | skip
 exact Ev.skip h
theorem EvL.ret (h : K .ret e s) : EvL P N m .ret e s K:=by
 intro c hc
 cases c <;> simp only [light] at hc <;> first | (cases hc;done) | (rename_i d;cases d <;> simp only [regL] at hc <;> cases hc;done) | skip
 exact Ev.ret h
theorem EvL.exit {id : Nat} (h : K (.exit id) e s) : EvL P N m (.exit id) e s K:=by
 intro c hc
 cases c <;> simp only [light] at hc <;> first | (cases hc;done) | (rename_i d;cases d <;> simp only [regL] at hc <;> cases hc;done) | skip
 cases hc;exact Ev.exit h
theorem EvL.cond {c : Operand} {x y : LC} {t : Bool} (hc : evO e c = .bool t) (h1 : t = true → EvL P N m x e s K) (h2 : t = false → EvL P N m y e s K) : EvL P N m (.cond c x y) e s K:=by
 intro c' hc'
 cases c' <;> simp only [light] at hc' <;> first | (cases hc';done) | (rename_i d;cases d <;> simp only [regL] at hc' <;> cases hc';done) | skip
 cases hc'
 refine Ev.cond hc ?_
 cases t
 ·exact h2 rfl _ rfl
 ·exact h1 rfl _ rfl
theorem EvL.block {id : Nat} {c : LC} (h : EvL P N m c e s (blockK id K)) : EvL P N m (.block id c) e s K:=by
 intro c' hc'
 cases c' <;> simp only [light] at hc' <;> first | (cases hc';done) | (rename_i d;cases d <;> simp only [regL] at hc' <;> cases hc';done) | skip
 cases hc'
 exact Ev.block (h _ rfl)
theorem EvL.mono {c : LC} {K' : Post} (h : EvL P N m c e s K) (hk : ∀ x e s,K x e s → K' x e s) : EvL P N m c e s K':=fun c' hc'=>(h c' hc').mono hk
theorem EvL.view {c : LC} {e' : Env} {s' : Store} (v : View m e s e' s') (h : EvL P N m c e' s' K) : EvL P N m c e s K:=fun c' hc'=>Ev.view v (h c' hc')
def ViewL (m : Nat) (e : Env) (s : Store) (l : List (Nat × PV)) (s' : Store) : Prop:=View m e s (envOf l) s'
def loopK {X : Type} (m : Nat) (E : X → List (Nat × PV)) (S : X → Store) (I : X → Prop) (μ : X → Nat) (n : Nat) (K : Post) : Post
 | .normal,e',s'=>∃ x',I x' ∧ μ x' < n ∧ ViewL m e' s' (E x') (S x')
 | y,e',s'=>K y e' s'
theorem loopK_normal {X : Type} {E : X → List (Nat × PV)} {S : X → Store} {I : X → Prop} {μ : X → Nat} {n : Nat} (h : ∃ x',I x' ∧ μ x' < n ∧ ViewL m e s (E x') (S x')) : loopK m E S I μ n K .normal e s:=h
theorem loopK_exit {X : Type} {E : X → List (Nat × PV)} {S : X → Store} {I : X → Prop} {μ : X → Nat} {n i : Nat} (h : K (.exit i) e s) : loopK m E S I μ n K (.exit i) e s:=h
theorem loopK_ret {X : Type} {E : X → List (Nat × PV)} {S : X → Store} {I : X → Prop} {μ : X → Nat} {n : Nat} (h : K .ret e s) : loopK m E S I μ n K .ret e s:=h
theorem EvL.loop {c : LC} {X : Type} (E : X → List (Nat × PV)) (S : X → Store) (I : X → Prop) (μ : X → Nat) (x₀ : X) (h₀ : I x₀) (v₀ : ViewL m e s (E x₀) (S x₀))
  (round : ∀ x,I x → EvL P N m c (envOf (E x)) (S x) (loopK m E S I μ (μ x) K)) : EvL P N m (.loop c) e s K:=by
 intro c' hc'
 cases c' <;> simp only [light] at hc' <;> first | (cases hc';done) | (rename_i d;cases d <;> simp only [regL] at hc' <;> cases hc';done) | skip
 cases hc'
 refine Ev.loop (fun x=>envOf (E x)) S I μ x₀ h₀ v₀ fun x hx=>(round x hx _ rfl).mono fun y e' s' hk=>?_
 cases y <;> exact hk
end
end Go.Pv
