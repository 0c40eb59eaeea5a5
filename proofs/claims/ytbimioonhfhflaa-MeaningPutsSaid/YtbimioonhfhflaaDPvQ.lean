import Derived.Test.YtbimioonhfhflaaDPvMix3
set_option linter.unusedVariables false
set_option linter.unusedSimpArgs false
namespace Go.Pv
open Go
def Sat {α : Type} : Option α → (α → Prop) → Prop
 | none,_=>False
 | some a,k=>k a
def withRow {α : Type} (rows : List (List PV)) (r : Nat) (f : List PV → Option α) : Option α:=if h : r < rows.length then f rows[r] else none
def xread (ti : TI) (row : List PV) (off : Nat) : Option PV:=
 if ti.agg = true then (if off + ti.size ≤ row.length then some (.agg ((row.drop off).take ti.size)) else none) else row[off]?
def withRowT {α : Type} (ti : TI) (z : Nat) (rows : List (List PV)) (r : Nat) (f : List PV → Option α) : Option α:=match z,ti.agg with
 | 1,true=>if r < rows.length then f (rows.drop r).flatten else none
 | _,_=>withRow rows r f
def xload (ti : TI) (s : Store) (a : PV) : Option PV:=
 match a with
 | .ptr i r off=>match s[i]? with
  | some (.rows z rows)=>withRowT ti z rows r fun row=>xread ti row off
  | _=>none
 | .iptr cells=>xread ti cells 0
 | _=>none
def xstore (ti : TI) (s : Store) (a x : PV) : Option Store:=
 match a with
 | .ptr i r off=>match s[i]? with
  | some (.rows z rows)=>(cellsP x).bind fun cs=>withRowT ti z rows r fun row=>
   if cs.length = ti.size ∧ off + cs.length ≤ row.length ∧ cs.all isCell = true then some (s.set i (.rows z (putAt ti z rows r (spliceP row off cs)))) else none
  | _=>none
 | _=>none
def xindexAddr (ti : TI) (s : Store) (x ix : PV) : Option PV:=
 match ix with
 | .int _ i=>match ti.kind,x with
  | .array n _ esz _,.ptr j r off=>if 0 ≤ i ∧ i < n then some (.ptr j r (off + i.toNat * esz)) else none
  | .array n _ esz _,.iptr cells=>if 0 ≤ i ∧ i < n ∧ i.toNat * esz ≤ cells.length then some (.iptr (cells.drop (i.toNat * esz))) else none
  | .slice _ esz _ _ _,.list xs=>if 0 ≤ i then withRow xs i.toNat fun row=>if row.length = esz then some (.iptr row) else none else none
  | .slice _ esz _ _ _,.sl j off len=>match s[j]? with
   | some (.rows z rows)=>if 0 ≤ i ∧ i < len ∧ z = esz then some (.ptr j (off + i.toNat) 0) else none
   | _=>none
  | _,_=>none
 | _=>none
def xfieldAddr (ti : TI) (x : PV) (f : Nat) : Option PV:=
 match ti.kind with
 | .struct fs=>match fs[f]? with
  | some (off,_,_,_)=>match x with
   | .ptr j r o=>some (.ptr j r (o + off))
   | .iptr cells=>if off ≤ cells.length then some (.iptr (cells.drop off)) else none
   | _=>none
  | none=>none
 | _=>none
def xfield (ti : TI) (x : PV) (f : Nat) : Option PV:=
 match ti.kind with
 | .struct fs=>match fs[f]? with
  | some (off,_,sz,ag)=>match x with
   | .agg cells=>xread { size:=sz,agg:=ag,zero:=none,kind:=.other } cells off
   | _=>none
  | none=>none
 | _=>none
def xindex (P : Program) (ti : TI) (x ix : PV) : Option PV:=
 match ix with
 | .int _ i=>match ti.kind,x with
  | .string,.str t=>if 0 ≤ i then (if h : i.toNat < t.size then some (.int .u8 (t[i.toNat].toNat : Int)) else none) else none
  | .array n el esz ag,.agg cells=>(tinfo P el).bind fun _=>if 0 ≤ i ∧ i < n then xread { size:=esz,agg:=ag,zero:=none,kind:=.other } cells (i.toNat * esz) else none
  | _,_=>none
 | _=>none
def xmake (ti : TI) (s : Store) (l c : PV) : Option (PV × Store):=
 match ti.kind,l,c with
 | .slice _ esz by' _ (some z),.int _ m,.int _ n=>if z.length = esz ∧ 0 ≤ m ∧ m ≤ n ∧ (by' : Int) * n ≤ 281474976710656 ∧ n ≤ 9223372036854775807 then some (.sl s.length 0 m.toNat,s ++ [.rows esz (List.replicate m.toNat z)]) else none
 | _,_,_=>none
def xslice (ti : TI) (s : Store) (x : PV) (lo hi : Option PV) : Option PV:=
 (boundP lo 0).bind fun l=>match ti.kind,x with
 | .string,.str t=>(boundP hi t.size).bind fun hh=>if 0 ≤ l ∧ l ≤ hh ∧ hh ≤ t.size then some (.str (t.extract l.toNat hh.toNat)) else none
 | .slice _ esz _ _ _,.list xs=>(boundP hi xs.length).bind fun hh=>if 0 ≤ l ∧ l ≤ hh ∧ hh ≤ xs.length ∧ ∀ row ∈ xs,row.length = esz then some (.list ((xs.take hh.toNat).drop l.toNat)) else none
 | .slice _ esz _ _ _,.sl i off len=>match s[i]? with
  | some (.rows z rows)=>(boundP hi len).bind fun hh=>if 0 ≤ l ∧ l ≤ hh ∧ hh ≤ len ∧ z = esz then some (.sl i (off + l.toNat) (hh.toNat - l.toNat)) else none
  | _=>none
 | .slice ..,.nilsl=>(boundP hi 0).bind fun hh=>if 0 ≤ l ∧ l ≤ hh ∧ hh ≤ 0 then some .nilsl else none
 | .array n _ esz _,.ptr j r off=>match s[j]? with
  | some (.rows z rows)=>(boundP hi n).bind fun hh=>if 0 ≤ l ∧ l ≤ hh ∧ hh ≤ n ∧ l < n ∧ n ≤ 9223372036854775807 ∧ off = 0 ∧ z = esz ∧ r + n ≤ rows.length then some (.sl j (r + l.toNat) (hh.toNat - l.toNat)) else none
  | _=>none
 | _,_=>none
def xslice3 (ti : TI) (s : Store) (x : PV) (lo : Option PV) (hi mx : PV) : Option PV:=
 (boundP lo 0).bind fun l=>(boundP (some hi) 0).bind fun hh=>(boundP (some mx) 0).bind fun m=>if 0 ≤ l ∧ l ≤ hh ∧ hh ≤ m then (match ti.kind,x with
 | .slice _ esz _ _ _,.list xs=>if m ≤ xs.length ∧ ∀ row ∈ xs,row.length = esz then some (if m = hh then .clip esz ((xs.take hh.toNat).drop l.toNat) else .list ((xs.take hh.toNat).drop l.toNat)) else none
 | .slice _ esz _ _ _,.sl i off len=>match s[i]? with
  | some (.rows z rows)=>if m ≤ len ∧ z = esz then some (.sl i (off + l.toNat) (hh.toNat - l.toNat)) else none
  | _=>none
 | .slice ..,.nilsl=>if m ≤ 0 then some .nilsl else none
 | _,_=>none) else none
def xbuild (ti : TI) (parts : List (Nat × PV)) : Option PV:=
 match ti.zero with
 | some z=>(match ti.kind with
  | .struct fs=>fillP (fun i=>(fs[i]?).map fun (f : Nat × Nat × Nat × Bool)=>(f.1,f.2.2.1)) z parts
  | .array _ _ esz _=>fillP (fun i=>some (i * esz,esz)) z parts
  | _=>none).map .agg
 | none=>none
def xbuildSlice (ti : TI) (s : Store) (len : Nat) (parts : List (Nat × PV)) : Option (PV × Store):=
 match ti.kind with
 | .slice _ esz _ _ (some z)=>if z.length = esz ∧ len * esz ≤ 16777216 ∧ esz ≠ 0 then (fillRows esz (List.replicate len z) parts).map fun rows=>(.sl s.length 0 len,s ++ [.rows esz rows]) else none
 | _=>none
def xsrc (s : Store) (esz : Nat) (y : PV) : Option (List (List PV)):=
 match y with
 | .list xs=>some xs
 | .nilsl=>some []
 | .sl j off len=>match s[j]? with
  | some (.rows z rs)=>if z = esz ∧ off + len ≤ rs.length then some ((rs.drop off).take len) else none
  | _=>none
 | .clip z xs=>if z = esz then some xs else none
 | _=>none
def isDstC : PV → Bool
 | .nilsl | .sl _ _ _ | .clip _ _=>true
 | _=>false
def isClip : PV → Bool
 | .clip _ _=>true
 | _=>false
def xappend (ti : TI) (s : Store) (x y : PV) : Option (PV × Store):=
 match ti.kind with
 | .slice _ esz by' _ (some z) => if z.length = esz ∧ esz ≠ 0 ∧ by' ≠ 0 ∧ isDstC x = true ∧ isClip y = false then (xsrc s esz x).bind fun xs => (xsrc s esz y).bind fun ys =>
   if (isClip x = true → ys ≠ []) ∧ (∀ row ∈ ys,row.length = esz ∧ row.all isCell = true) ∧ (xs.length + ys.length) * by' ≤ 140737488355328 then some (.sl s.length 0 (xs.length + ys.length),killP s x ++ [.rows esz (xs ++ ys)]) else none else none
 | _=>none
def xappN (ti : TI) (s : Store) (x y : PV) : Option (PV × Store):=
 match ti.kind,x,y with
 | .slice _ esz by' _ (some z),.nilsl,.int .i64 n=>if z.length = esz ∧ esz ≠ 0 ∧ by' ≠ 0 ∧ 0 ≤ n ∧ n * (by' : Int) ≤ 140737488355328 then some (.sl s.length 0 n.toNat,s ++ [.rows esz (List.replicate n.toNat z)]) else none
 | _,_,_=>none
def isSlk : TK → Bool
 | .slice ..=>true
 | _=>false
def mapAt (s : Store) : PV → Option (Nat × List (PV × PV))
 | .mapv i=>match s[i]? with
  | some (.map es)=>some (i,es)
  | _=>none
 | _=>none
def xdelete (P : Program) (ti : TI) (s : Store) (m x : PV) : Option Store:=match ti.kind with
 | .map kt et=>(tinfo P kt).bind fun kti=>if keyKind kti.kind x = true then (mapAt s m).bind fun p=>(findP x p.2 0).bind fun r=>some (s.set p.1 (.map (delP p.2 r))) else none
 | _=>none
def xclear (ti : TI) (s : Store) (x : PV) : Option Store:=
 match ti.kind with
 | .slice _ esz _ _ (some z)=>if z.length = esz ∧ z.all isCell = true then (match x with
  | .nilsl=>some s
  | .sl i off len=>match s[i]? with
   | some (.rows z' rows)=>if z' = esz ∧ off + len ≤ rows.length then some (s.set i (.rows esz (putRows rows (List.replicate len z) off))) else none
   | _=>none
  | _=>none) else none
 | _=>none
def xnext (s : Store) (it : PV) : Option (PV × Store):=
 match it with
 | .ptr i 0 0=>match s[i]? with
  | some (.iter t pos)=>if pos < t.size then some (.tuple [.bool true,.int .i64 (pos : Int),.int .i32 ((Utf8.decode t pos).1 : Int)],s.set i (.iter t (pos + (Utf8.decode t pos).2))) else some (.tuple [.bool false],s)
  | _=>none
 | _=>none
def xlen (ti : TI) (x : PV) : Option Nat:=if lenKind ti x = true then lenP x else none
def notInt : TK → Bool
 | .int _=>false
 | _=>true
def xcall (P : Program) (c : Callee) (args : List PV) (Ts : List TypeId) (s : Store) : Option (PV × Store):=
 match c with
 | .builtin .len=>match args,Ts with
  | [x],[T]=>(tinfo P T).bind fun ti=>(xlen ti x).map fun (n : Nat)=>(PV.int .i64 (n : Int),s)
  | _,_=>none
 | .builtin .min=>match args with
  | [.int kd m,.int kd' n]=>if kd = kd' then some (.int kd (if n < m then n else m),s) else none
  | _=>none
 | .builtin .max=>match args with
  | [.int kd m,.int kd' n]=>if kd = kd' then some (.int kd (if n > m then n else m),s) else none
  | _=>none
 | .builtin .append=>match args,Ts with
  | [x,y],[T,T2]=>(tinfo P T).bind fun ti=>(tinfo P T2).bind fun ti2=>if notInt ti2.kind = true then xappend ti s x y else xappN ti s x y
  | _,_=>none
 | .builtin .cap=>match args,Ts with
  | [.nilsl],[T]=>(tinfo P T).bind fun ti=>if isSlk ti.kind = true then some (.int .i64 0,s) else none
  | _,_=>none
 | .builtin .clear=>match args,Ts with
  | [x],[T]=>(tinfo P T).bind fun ti=>(xclear ti s x).map fun s'=>(.tuple [],s')
  | _,_=>none
 | .builtin .delete=>match args,Ts with
  | [x,y],[T,_]=>(tinfo P T).bind fun ti=>(xdelete P ti s x y).map fun s'=>(.tuple [],s')
  | _,_=>none
 | _=>none
def xconv (ti ti' : TI) (v : PV) : Option PV:=match ti'.kind,v with
 | .int kd',.int _ n=>some (.int kd' (kd'.wrap n))
 | .string,.int _ n=>some (.str (Utf8.encode n))
 | _,_=>none
def xrange (ti : TI) (s : Store) (v : PV) : Option (PV × Store):=match ti.kind,v with
 | .string,.str t=>some (.ptr s.length 0 0,s ++ [.iter t 0])
 | _,_=>none
def pickV : PV → PV → PV → Option PV
 | .bool t,a,b=>some (if t = true then a else b)
 | _,_,_=>none
def notV : PV → Option PV
 | .bool b=>some (.bool !b)
 | _=>none
def negV : PV → Option PV
 | .int kd n=>some (.int kd (kd.wrap (0 - n)))
 | _=>none
def extV : PV → Nat → Option PV
 | .tuple vs,n=>vs[n]?
 | _,_=>none
def foundP (P : Program) (et : TypeId) : Option (Nat × PV) → Option (PV × Bool)
 | some p=>some (p.2,true)
 | none=>(zvOf P et).map fun z=>(z,false)
def xlookup (P : Program) (ti : TI) (s : Store) (m x : PV) : Option (PV × Bool):=match ti.kind with
 | .map kt et=>(tinfo P kt).bind fun kti=>if keyKind kti.kind x = true then (entsP s m).bind fun es=>(findP x es 0).bind fun r=>foundP P et r else none
 | _=>none
def xupdate (P : Program) (ti : TI) (s : Store) (m x v : PV) : Option Store:=match ti.kind with
 | .map kt et=>(tinfo P kt).bind fun kti=>if keyKind kti.kind x = true then (mapAt s m).bind fun p=>(findP x p.2 0).bind fun r=>some (s.set p.1 (.map (putP x v p.2 r))) else none
 | _=>none
def notNilV (v : PV) : Option PV:=if notNil v = true then some v else none
def xop (P : Program) (op : Op) (e : Env) (s : Store) : Option (PV × Store):=
 match op with
 | .move x | .assign x=>some (evO e x,s)
 | .pick c a b=>(pickV (evO e c) (evO e a) (evO e b)).map fun v=>(v,s)
 | .alloc T=>(zeroOf P T).map fun z=>(.ptr s.length 0 0,s ++ [.rows z.length [z]])
 | .box T x=>(cellsP (evO e x)).map fun z=>(.ptr s.length 0 0,s ++ [.rows z.length [z]])
 | .load T a=>(tinfo P T).bind fun ti=>(xload ti s (evO e a)).map fun v=>(v,s)
 | .store T a x=>(tinfo P T).bind fun ti=>(xstore ti s (evO e a) (evO e x)).map fun s'=>(.tuple [],s')
 | .binOp b T x y _=>(tinfo P T).bind fun ti=>(binP ti b (evO e x) (evO e y)).map fun v=>(v,s)
 | .unOp .not T x=>(notV (evO e x)).map fun v=>(v,s)
 | .unOp .neg T x=>(negV (evO e x)).map fun v=>(v,s)
 | .convert T T' x=>(tinfo P T).bind fun ti=>(tinfo P T').bind fun ti'=>(xconv ti ti' (evO e x)).map fun v=>(v,s)
 | .extract x n=>(extV (evO e x) n).map fun v=>(v,s)
 | .fieldAddr T x f=>(tinfo P T).bind fun ti=>(xfieldAddr ti (evO e x) f).map fun v=>(v,s)
 | .field T x f=>(tinfo P T).bind fun ti=>(xfield ti (evO e x) f).map fun v=>(v,s)
 | .indexAddr T x y=>(tinfo P T).bind fun ti=>(xindexAddr ti s (evO e x) (evO e y)).map fun v=>(v,s)
 | .index T x y=>(tinfo P T).bind fun ti=>(xindex P ti (evO e x) (evO e y)).map fun v=>(v,s)
 | .makeSlice T x y=>(tinfo P T).bind fun ti=>xmake ti s (evO e x) (evO e y)
 | .slice T x lo hi none=>(tinfo P T).bind fun ti=>(xslice ti s (evO e x) (lo.map (evO e)) (hi.map (evO e))).map fun v=>(v,s)
 | .build T parts=>(tinfo P T).bind fun ti=>(xbuild ti (parts.toList.map fun p=>(p.1,evO e p.2))).map fun v=>(v,s)
 | .buildSlice T len parts=>(tinfo P T).bind fun ti=>xbuildSlice ti s len (parts.toList.map fun p=>(p.1,evO e p.2))
 | .makeFunc f xs ys=>some (.fn f (xs.toList.map (evO e)) (ys.toList.map (evO e)),s)
 | .call c=>xcall P c.callee (c.args.toList.map (evO e)) c.argTypes.toList s
 | .range T x=>(tinfo P T).bind fun ti=>xrange ti s (evO e x)
 | .next it true=>xnext s (evO e it)
 | .makeMap T none=>some (.mapv s.length,s ++ [.map []])
 | .lookup T x y ok=>(tinfo P T).bind fun ti=>(xlookup P ti s (evO e x) (evO e y)).map fun p=>(if ok = true then .tuple [p.1,.bool p.2] else p.1,s)
 | .mapUpdate T x y z=>(tinfo P T).bind fun ti=>(xupdate P ti s (evO e x) (evO e y) (evO e z)).map fun s'=>(.tuple [],s')
 | .insert T x y z=>(tinfo P T).bind fun ti=>(xupdate P ti s (evO e x) (evO e y) (evO e z)).map fun s'=>(.tuple [],s')
 | .nilCheck x=>(notNilV (evO e x)).map fun v=>(v,s)
 | .slice T x lo (some hi) (some mx)=>(tinfo P T).bind fun ti=>(xslice3 ti s (evO e x) (lo.map (evO e)) (evO e hi) (evO e mx)).map fun v=>(v,s)
 | _=>none
section
variable {P : Program} {N : FrN} {m : Nat} {e : Env} {s : Store}
theorem readP_of {ti : TI} {row : List PV} {off : Nat} {v : PV} {k : PV → Prop} (h : xread ti row off = some v) (hk : k v) : readP ti row off k:=by
 unfold xread at h;unfold readP
 split at h
 ·rename_i ha
  rw [if_pos ha]
  split at h
  ·rename_i hl;cases h;exact ⟨hl,hk⟩
  ·cases h
 ·rename_i ha
  rw [if_neg ha];exact ⟨v,h,hk⟩
theorem withRow_some {α : Type} {rows : List (List PV)} {r : Nat} {f : List PV → Option α} {x : α} (h : withRow rows r f = some x) : ∃ row,rows[r]? = some row ∧ f row = some x:=by
 unfold withRow at h
 split at h
 ·rename_i hl;exact ⟨_,List.getElem?_eq_getElem hl,h⟩
 ·cases h
theorem withRowT_some {α : Type} {ti : TI} {z : Nat} {rows : List (List PV)} {r : Nat} {f : List PV → Option α} {x : α} (h : withRowT ti z rows r f = some x) : ∃ row,rowAt ti z rows r = some row ∧ f row = some x:=by
 unfold withRowT at h
 unfold rowAt
 split at h
 ·rename_i ha
  rw [ha]
  split at h
  ·rename_i hl;exact ⟨_,by simp [hl],h⟩
  ·cases h
 ·rename_i hne
  obtain ⟨row,h1,h2⟩:=withRow_some h
  refine ⟨row,?_,h2⟩
  split
  ·exact (hne rfl (by assumption)).elim
  ·exact h1
theorem wload_of {ti : TI} {a v : PV} {k : PV → Prop} (h : xload ti s a = some v) (hk : k v) : WLoad ti s a k:=by
 unfold xload at h;unfold WLoad
 split at h
 ·split at h
  ·rename_i z rows hs
   obtain ⟨row,h1,h2⟩:=withRowT_some h
   exact ⟨z,rows,row,hs,h1,readP_of h2 hk⟩
  ·cases h
 ·exact readP_of h hk
 ·cases h
theorem wstore_of {ti : TI} {a x : PV} {s' : Store} {k : Store → Prop} (h : xstore ti s a x = some s') (hk : k s') : WStore ti s a x k:=by
 unfold xstore at h;unfold WStore
 split at h
 ·split at h
  ·rename_i z rows hs
   obtain ⟨cs,h1,h2⟩:=Option.bind_eq_some_iff.1 h
   obtain ⟨row,h3,h4⟩:=withRowT_some h2
   split at h4
   ·rename_i hc; cases h4
    exact ⟨z,rows,row,cs,hs,h3,h1,hc.1,hc.2.1,hc.2.2,hk⟩
   ·cases h4
  ·cases h
 ·cases h
theorem windexAddr_of {ti : TI} {x ix v : PV} {k : PV → Prop} (h : xindexAddr ti s x ix = some v) (hk : k v) : WIndexAddr ti s x ix k:=by
 unfold xindexAddr at h;unfold WIndexAddr
 split at h
 ·rename_i kd i
  split at h
  ·rename_i hkd
   split at h <;> cases h
   rename_i hc;exact ⟨kd,i,rfl,hc.1,by rw [hkd];exact ⟨hc.2,hk⟩⟩
  ·rename_i hkd
   split at h <;> cases h
   rename_i hc;exact ⟨kd,i,rfl,hc.1,by rw [hkd];exact ⟨hc.2.1,hc.2.2,hk⟩⟩
  ·rename_i hkd
   split at h
   ·rename_i hc
    obtain ⟨row,h1,h2⟩:=withRow_some h
    split at h2 <;> cases h2
    rename_i hl
    exact ⟨kd,i,rfl,hc,by rw [hkd];exact ⟨row,h1,hl,hk⟩⟩
   ·cases h
  ·rename_i hkd
   split at h
   ·rename_i z rows hs
    split at h <;> cases h
    rename_i hc
    obtain ⟨h1,h2,rfl⟩:=hc
    exact ⟨kd,i,rfl,h1,by rw [hkd];exact ⟨h2,rows,hs,hk⟩⟩
   ·cases h
  ·cases h
 ·cases h
theorem wfieldAddr_of {ti : TI} {x v : PV} {f : Nat} {k : PV → Prop} (h : xfieldAddr ti x f = some v) (hk : k v) : WFieldAddr ti x f k:=by
 unfold xfieldAddr at h;unfold WFieldAddr
 split at h
 ·rename_i fs hkd
  split at h
  ·rename_i off t sz ag hf
   refine ⟨fs,off,t,sz,ag,hkd,hf,?_⟩
   split at h
   ·cases h;exact hk
   ·split at h <;> cases h
    rename_i hl;exact ⟨hl,hk⟩
   ·cases h
  ·cases h
 ·cases h
theorem wfield_of {ti : TI} {x v : PV} {f : Nat} {k : PV → Prop} (h : xfield ti x f = some v) (hk : k v) : WField ti x f k:=by
 unfold xfield at h;unfold WField
 split at h
 ·rename_i fs hkd
  split at h
  ·rename_i off t sz ag hf
   refine ⟨fs,off,t,sz,ag,hkd,hf,?_⟩
   split at h
   ·exact readP_of h hk
   ·cases h
  ·cases h
 ·cases h
theorem windex_of {ti : TI} {x ix v : PV} {k : PV → Prop} (h : xindex P ti x ix = some v) (hk : k v) : WIndex P ti x ix k:=by
 unfold xindex at h;unfold WIndex
 split at h
 ·rename_i kd i
  split at h
  ·rename_i t hkd
   split at h
   ·rename_i h0
    split at h <;> cases h
    rename_i hl
    exact ⟨kd,i,rfl,h0,by rw [hkd];exact ⟨hl,hk⟩⟩
   ·cases h
  ·rename_i hkd
   obtain ⟨ei,h1,h2⟩:=Option.bind_eq_some_iff.1 h
   split at h2
   ·rename_i hc
    exact ⟨kd,i,rfl,hc.1,by rw [hkd];exact ⟨⟨ei,h1⟩,hc.2,readP_of h2 hk⟩⟩
   ·cases h2
  ·cases h
 ·cases h
theorem wmake_of {ti : TI} {l c v : PV} {s' : Store} {k : PV → Store → Prop} (h : xmake ti s l c = some (v,s')) (hk : k v s') : WMake ti s l c k:=by
 unfold xmake at h;unfold WMake
 split at h
 ·rename_i el esz by' ag z kl mm kc n hkd
  split at h <;> cases h
  rename_i hc
  exact ⟨el,esz,by',ag,z,kl,kc,mm,n,hkd,hc.1,rfl,rfl,hc.2.1,hc.2.2.1,hc.2.2.2.1,hc.2.2.2.2,hk⟩
 ·cases h
theorem wslice_of {ti : TI} {x v : PV} {lo hi : Option PV} {k : PV → Prop} (h : xslice ti s x lo hi = some v) (hk : k v) : WSlice ti s x lo hi k:=by
 unfold xslice at h;unfold WSlice
 replace h:=Option.bind_eq_some_iff.1 h
 obtain ⟨l,h1,h⟩:=h
 split at h
 ·rename_i t hkd
  replace h:=Option.bind_eq_some_iff.1 h
  obtain ⟨hh,h2,h⟩:=h
  split at h <;> cases h
  rename_i hc
  exact ⟨l,hh,h1,by rw [hkd];exact ⟨h2,hc.1,hc.2.1,hc.2.2,fun _=>hk⟩⟩
 ·rename_i hkd
  replace h:=Option.bind_eq_some_iff.1 h
  obtain ⟨hh,h2,h⟩:=h
  split at h <;> cases h
  rename_i hc
  exact ⟨l,hh,h1,by rw [hkd];exact ⟨h2,hc.1,hc.2.1,hc.2.2.1,hc.2.2.2,hk⟩⟩
 ·rename_i hkd
  split at h
  ·rename_i z rows hs
   replace h:=Option.bind_eq_some_iff.1 h
   obtain ⟨hh,h2,h⟩:=h
   split at h <;> cases h
   rename_i hc
   obtain ⟨h3,h4,h5,rfl⟩:=hc
   exact ⟨l,hh,h1,by rw [hkd];exact ⟨h2,h3,h4,h5,⟨rows,hs⟩,hk⟩⟩
  ·cases h
 ·rename_i hkd
  replace h:=Option.bind_eq_some_iff.1 h
  obtain ⟨hh,h2,h⟩:=h
  split at h <;> cases h
  rename_i hc
  exact ⟨l,hh,h1,by rw [hkd];exact ⟨h2,hc.1,hc.2.1,hc.2.2,hk⟩⟩
 ·rename_i hkd
  split at h
  ·rename_i z rows hs
   replace h:=Option.bind_eq_some_iff.1 h
   obtain ⟨hh,h2,h⟩:=h
   split at h <;> cases h
   rename_i hc
   obtain ⟨h3,h4,h5,h6,h7,h8,rfl,h9⟩:=hc
   exact ⟨l,hh,h1,by rw [hkd];exact ⟨h2,h3,h4,h5,h6,h7,h8,⟨rows,hs,h9⟩,hk⟩⟩
  ·cases h
 ·cases h
theorem wslice3_of {ti : TI} {x v hi mx : PV} {lo : Option PV} {k : PV → Prop} (h : xslice3 ti s x lo hi mx = some v) (hk : k v) : WSlice3 ti s x lo hi mx k:=by
 unfold xslice3 at h;unfold WSlice3
 replace h:=Option.bind_eq_some_iff.1 h
 obtain ⟨l,h1,h⟩:=h
 replace h:=Option.bind_eq_some_iff.1 h
 obtain ⟨hh,h2,h⟩:=h
 replace h:=Option.bind_eq_some_iff.1 h
 obtain ⟨m,h3,h⟩:=h
 split at h
 ·rename_i hc
  split at h
  ·rename_i hkd
   split at h <;> cases h
   rename_i hd
   exact ⟨l,hh,m,h1,h2,h3,hc.1,hc.2.1,hc.2.2,by rw [hkd];exact ⟨hd.1,hd.2,hk⟩⟩
  ·rename_i hkd
   split at h
   ·rename_i z rows hs
    split at h <;> cases h
    rename_i hd
    obtain ⟨h4,rfl⟩:=hd
    exact ⟨l,hh,m,h1,h2,h3,hc.1,hc.2.1,hc.2.2,by rw [hkd];exact ⟨h4,⟨rows,hs⟩,hk⟩⟩
   ·cases h
  ·rename_i hkd
   split at h <;> cases h
   rename_i hd
   exact ⟨l,hh,m,h1,h2,h3,hc.1,hc.2.1,hc.2.2,by rw [hkd];exact ⟨hd,hk⟩⟩
  ·cases h
 ·cases h
theorem wbuild_of {ti : TI} {parts : List (Nat × PV)} {v : PV} {k : PV → Prop} (h : xbuild ti parts = some v) (hk : k v) : WBuild ti parts k:=by
 unfold xbuild at h;unfold WBuild
 split at h
 ·rename_i z hz
  obtain ⟨out,h1,rfl⟩:=Option.map_eq_some_iff.1 h
  exact ⟨z,out,hz,h1,hk⟩
 ·cases h
theorem wbuildSlice_of {ti : TI} {len : Nat} {parts : List (Nat × PV)} {v : PV} {s' : Store} {k : PV → Store → Prop} (h : xbuildSlice ti s len parts = some (v,s')) (hk : k v s') : WBuildSlice ti s len parts k:=by
 unfold xbuildSlice at h;unfold WBuildSlice
 split at h
 ·rename_i el esz by' ag z hkd
  split at h
  ·rename_i hc
   obtain ⟨rows,h1,h2⟩:=Option.map_eq_some_iff.1 h
   cases h2
   exact ⟨el,esz,by',ag,z,rows,hkd,hc.1,hc.2.1,hc.2.2,h1,hk⟩
  ·cases h
 ·cases h
theorem wsrc_of {esz : Nat} {y : PV} {ys : List (List PV)} (hq : isClip y = false) (h : xsrc s esz y = some ys) : WSrc s esz y ys:=by
 unfold xsrc at h;unfold WSrc
 split at h
 ·cases h;rfl
 ·cases h;rfl
 ·split at h
  ·rename_i z rs hs
   split at h <;> cases h
   rename_i hc
   obtain ⟨rfl,h2⟩:=hc
   exact ⟨rs,hs,h2,rfl⟩
  ·cases h
 ·cases hq
 ·cases h
theorem wappend_of {ti : TI} {x y v : PV} {s' : Store} {k : PV → Store → Prop} (h : xappend ti s x y = some (v, s')) (hk : k v s') : WApp ti s x y k:=by
  unfold xappend at h;unfold WApp
  split at h
  · rename_i el esz by' ag z hkd
    split at h
    · rename_i hc
      replace h:=Option.bind_eq_some_iff.1 h
      obtain ⟨xs, h1, h⟩:=h
      replace h:=Option.bind_eq_some_iff.1 h
      obtain ⟨ys, h2, h⟩:=h
      split at h <;> cases h
      rename_i hd
      obtain ⟨hc1, hc2, hc3, hc4, hc5⟩:=hc
      cases x <;> first
        | (cases hc4;done)
        | exact ⟨el, esz, by', ag, z, xs, ys, hkd, hc1, hc2, hc3, wsrc_of rfl h1, rfl, wsrc_of hc5 h2, hd.2.1, hd.2.2, hk⟩
        | (simp only [xsrc] at h1
           split at h1
           · rename_i hz; subst hz; cases h1
             exact ⟨el, by', ag, z, ys, hkd, hc1, hc2, hc3, wsrc_of hc5 h2, hd.1 rfl, hd.2.1, hd.2.2, by simpa [killP] using hk⟩
           · cases h1)
    · cases h
  · cases h
theorem wclear_of {ti : TI} {x : PV} {s' : Store} {k : Store → Prop} (h : xclear ti s x = some s') (hk : k s') : WClear ti s x k:=by
 unfold xclear at h;unfold WClear
 split at h
 ·rename_i el esz by' ag z hkd
  split at h
  ·rename_i hc
   refine ⟨el,esz,by',ag,z,hkd,hc.1,hc.2,?_⟩
   split at h
   ·cases h;exact hk
   ·split at h
    ·rename_i z' rows hs
     split at h <;> cases h
     rename_i hd
     obtain ⟨rfl,h2⟩:=hd
     exact ⟨rows,hs,h2,hk⟩
    ·cases h
   ·cases h
  ·cases h
 ·cases h
theorem wnext_of {it v : PV} {s' : Store} {k : PV → Store → Prop} (h : xnext s it = some (v,s')) (hk : k v s') : WNext s it k:=by
 unfold xnext at h;unfold WNext
 split at h
 ·rename_i i
  split at h
  ·rename_i t pos hs
   refine ⟨i,t,pos,rfl,hs,fun hp=>?_,fun hp=>?_⟩
   ·rw [if_pos hp] at h;cases h;exact hk
   ·rw [if_neg hp] at h;cases h;exact hk
  ·cases h
 ·cases h
theorem xlen_some {ti : TI} {x : PV} {n : Nat} (h : xlen ti x = some n) : lenKind ti x = true ∧ lenP x = some n:=by
 unfold xlen at h;split at h
 ·exact ⟨by assumption,h⟩
 ·cases h
theorem wlookup_of {ti : TI} {m x : PV} {p : PV × Bool} {k : PV → Bool → Prop} (h : xlookup P ti s m x = some p) (hk : k p.1 p.2) : ∃ kt et kti,ti.kind = .map kt et ∧ tinfo P kt = some kti ∧ WLookup P kti et s m x k:=by
 unfold xlookup at h
 split at h
 ·rename_i kt et hkd
  obtain ⟨kti,h1,h2⟩:=Option.bind_eq_some_iff.1 h
  split at h2
  ·rename_i hkk
   obtain ⟨es,h3,h4⟩:=Option.bind_eq_some_iff.1 h2
   obtain ⟨r,h5,h6⟩:=Option.bind_eq_some_iff.1 h4
   refine ⟨kt,et,kti,hkd,h1,es,r,h3,hkk,h5,?_⟩
   cases r with
   | some q=>cases h6;exact hk
   | none=>obtain ⟨z,h7,rfl⟩:=Option.map_eq_some_iff.1 h6;exact ⟨z,h7,hk⟩
  ·cases h2
 ·cases h
theorem wupdate_of {ti : TI} {m x v : PV} {s' : Store} {k : Store → Prop} (h : xupdate P ti s m x v = some s') (hk : k s') : ∃ kt et kti,ti.kind = .map kt et ∧ tinfo P kt = some kti ∧ WMapUpdate kti s m x v k:=by
 unfold xupdate at h
 split at h
 ·rename_i kt et hkd
  obtain ⟨kti,h1,h2⟩:=Option.bind_eq_some_iff.1 h
  split at h2
  ·rename_i hkk
   obtain ⟨⟨i,es⟩,h3,h4⟩:=Option.bind_eq_some_iff.1 h2
   obtain ⟨r,h5,h6⟩:=Option.bind_eq_some_iff.1 h4
   cases h6
   unfold mapAt at h3
   split at h3
   ·split at h3
    ·rename_i hs
     cases h3
     exact ⟨kt,et,kti,hkd,h1,i,es,r,rfl,hs,hkk,h5,hk⟩
    ·cases h3
   ·cases h3
  ·cases h2
 ·cases h
theorem wdelete_of {ti : TI} {m x : PV} {s' : Store} {k : Store → Prop} (h : xdelete P ti s m x = some s') (hk : k s') : ∃ kt et kti,ti.kind = .map kt et ∧ tinfo P kt = some kti ∧ WDelete kti s m x k:=by
 unfold xdelete at h
 split at h
 ·rename_i kt et hkd
  obtain ⟨kti,h1,h2⟩:=Option.bind_eq_some_iff.1 h
  split at h2
  ·rename_i hkk
   obtain ⟨⟨i,es⟩,h3,h4⟩:=Option.bind_eq_some_iff.1 h2
   obtain ⟨r,h5,h6⟩:=Option.bind_eq_some_iff.1 h4
   cases h6
   unfold mapAt at h3
   split at h3
   ·split at h3
    ·rename_i hs
     cases h3
     exact ⟨kt,et,kti,hkd,h1,i,es,r,rfl,hs,hkk,h5,hk⟩
    ·cases h3
   ·cases h3
  ·cases h2
 ·cases h
theorem wop_of {op : Op} {v : PV} {s' : Store} {k : PV → Store → Prop} (h : xop P op e s = some (v,s')) (hk : k v s') : WOp P op e s k:=by
 unfold xop at h
 split at h
 case h_1=>cases h;exact hk
 case h_2=>cases h;exact hk
 case h_3=>
  obtain ⟨w,h1,h2⟩:=Option.map_eq_some_iff.1 h
  cases h2
  unfold pickV at h1
  split at h1 <;> cases h1
  rename_i t ht
  exact ⟨t,ht,hk⟩
 case h_4=>obtain ⟨z,h1,h2⟩:=Option.map_eq_some_iff.1 h;cases h2;exact ⟨z,h1,hk⟩
 case h_5=>obtain ⟨z,h1,h2⟩:=Option.map_eq_some_iff.1 h;cases h2;exact ⟨z,h1,hk⟩
 case h_6=>obtain ⟨ti,h1,h2⟩:=Option.bind_eq_some_iff.1 h;obtain ⟨w,h3,h4⟩:=Option.map_eq_some_iff.1 h2;cases h4;exact ⟨ti,h1,wload_of h3 hk⟩
 case h_7=>obtain ⟨ti,h1,h2⟩:=Option.bind_eq_some_iff.1 h;obtain ⟨w,h3,h4⟩:=Option.map_eq_some_iff.1 h2;cases h4;exact ⟨ti,h1,wstore_of h3 hk⟩
 case h_8=>obtain ⟨ti,h1,h2⟩:=Option.bind_eq_some_iff.1 h;obtain ⟨w,h3,h4⟩:=Option.map_eq_some_iff.1 h2;cases h4;exact ⟨ti,_,h1,h3,hk⟩
 case h_9=>
  obtain ⟨w,h1,h2⟩:=Option.map_eq_some_iff.1 h
  cases h2
  unfold notV at h1
  split at h1 <;> cases h1
  rename_i t ht
  exact ⟨t,ht,hk⟩
 case h_10=>
  obtain ⟨w,h1,h2⟩:=Option.map_eq_some_iff.1 h
  cases h2
  unfold negV at h1
  split at h1 <;> cases h1
  rename_i t n ht
  exact ⟨t,n,ht,hk⟩
 case h_11=>
  obtain ⟨ti,h1,h2⟩:=Option.bind_eq_some_iff.1 h
  obtain ⟨ti',h3,h4⟩:=Option.bind_eq_some_iff.1 h2
  obtain ⟨w,h5,h6⟩:=Option.map_eq_some_iff.1 h4
  cases h6
  unfold xconv at h5
  split at h5 <;> cases h5
  ·rename_i kd' kd n hkd hx
   exact ⟨ti,ti',kd,n,_,h1,h3,by rw [hkd];rfl,hx,hk⟩
  ·rename_i kd n hkd hx
   exact ⟨ti,ti',kd,n,_,h1,h3,by rw [hkd];rfl,hx,hk⟩
 case h_12=>
  obtain ⟨w,h1,h2⟩:=Option.map_eq_some_iff.1 h
  cases h2
  unfold extV at h1
  split at h1
  ·rename_i hvs
   exact ⟨_,_,hvs,h1,hk⟩
  ·cases h1
 case h_13=>obtain ⟨ti,h1,h2⟩:=Option.bind_eq_some_iff.1 h;obtain ⟨w,h3,h4⟩:=Option.map_eq_some_iff.1 h2;cases h4;exact ⟨ti,h1,wfieldAddr_of h3 hk⟩
 case h_14=>obtain ⟨ti,h1,h2⟩:=Option.bind_eq_some_iff.1 h;obtain ⟨w,h3,h4⟩:=Option.map_eq_some_iff.1 h2;cases h4;exact ⟨ti,h1,wfield_of h3 hk⟩
 case h_15=>obtain ⟨ti,h1,h2⟩:=Option.bind_eq_some_iff.1 h;obtain ⟨w,h3,h4⟩:=Option.map_eq_some_iff.1 h2;cases h4;exact ⟨ti,h1,windexAddr_of h3 hk⟩
 case h_16=>obtain ⟨ti,h1,h2⟩:=Option.bind_eq_some_iff.1 h;obtain ⟨w,h3,h4⟩:=Option.map_eq_some_iff.1 h2;cases h4;exact ⟨ti,h1,windex_of h3 hk⟩
 case h_17=>obtain ⟨ti,h1,h2⟩:=Option.bind_eq_some_iff.1 h;exact ⟨ti,h1,wmake_of h2 hk⟩
 case h_18=>obtain ⟨ti,h1,h2⟩:=Option.bind_eq_some_iff.1 h;obtain ⟨w,h3,h4⟩:=Option.map_eq_some_iff.1 h2;cases h4;exact ⟨ti,h1,wslice_of h3 hk⟩
 case h_19=>obtain ⟨ti,h1,h2⟩:=Option.bind_eq_some_iff.1 h;obtain ⟨w,h3,h4⟩:=Option.map_eq_some_iff.1 h2;cases h4;exact ⟨ti,h1,wbuild_of h3 hk⟩
 case h_20=>obtain ⟨ti,h1,h2⟩:=Option.bind_eq_some_iff.1 h;exact ⟨ti,h1,wbuildSlice_of h2 hk⟩
 case h_21=>cases h;exact hk
 case h_22=>
  rename_i c
  obtain ⟨cc,cargs,cTs⟩:=c
  cases cc with
  | value f=>simp only [xcall,reduceCtorEq] at h
  | invoke r n=>simp only [xcall,reduceCtorEq] at h
  | builtin b=>
   cases b
   all_goals (try (simp only [xcall,reduceCtorEq] at h;done))
   case len=>
    simp only [xcall] at h
    simp only [WOp,WCall]
    split at h
    ·rename_i x T hx hT
     rw [hx,hT]
     obtain ⟨ti,h1,h2⟩:=Option.bind_eq_some_iff.1 h
     obtain ⟨n,h3,h4⟩:=Option.map_eq_some_iff.1 h2
     cases h4
     obtain ⟨h5,h6⟩:=xlen_some h3
     exact ⟨ti,n,h1,h5,h6,fun _=>hk⟩
    ·cases h
   case min=>
    simp only [xcall] at h
    simp only [WOp,WCall]
    split at h
    ·rename_i kd mm kd' n hx
     rw [hx]
     split at h <;> cases h
     rename_i hkk;subst hkk
     exact ⟨kd,mm,n,rfl,rfl,hk⟩
    ·cases h
   case max=>
    simp only [xcall] at h
    simp only [WOp,WCall]
    split at h
    ·rename_i kd mm kd' n hx
     rw [hx]
     split at h <;> cases h
     rename_i hkk;subst hkk
     exact ⟨kd,mm,n,rfl,rfl,hk⟩
    ·cases h
   case append=>
    simp only [xcall] at h
    simp only [WOp,WCall]
    split at h
    ·rename_i x y T T2 hx hT
     rw [hx,hT]
     obtain ⟨ti,h1,h2⟩:=Option.bind_eq_some_iff.1 h
     obtain ⟨ti2,h3,h4⟩:=Option.bind_eq_some_iff.1 h2
     refine ⟨ti,ti2,h1,h3,?_⟩
     split at h4
     ·rename_i hn
      split
      ·rename_i e;rw [e] at hn;cases hn
      ·exact wappend_of h4 hk
     ·rename_i hn
      split
      ·unfold xappN at h4
       split at h4
       ·rename_i hkd
        split at h4 <;> cases h4
        rename_i hc
        exact ⟨_,_,_,_,_,_,hkd,hc.1,hc.2.1,hc.2.2.1,rfl,rfl,hc.2.2.2.1,hc.2.2.2.2,hk⟩
       ·cases h4
      ·rename_i e
       exfalso
       cases hkk : ti2.kind <;> simp_all [notInt]
    ·cases h
   case cap=>
    simp only [xcall] at h
    simp only [WOp,WCall]
    split at h
    ·rename_i T hx hT
     rw [hx,hT]
     obtain ⟨ti,h1,h2⟩:=Option.bind_eq_some_iff.1 h
     split at h2 <;> cases h2
     rename_i hs
     unfold isSlk at hs
     split at hs
     ·rename_i hkd;exact ⟨ti,_,_,_,_,_,h1,hkd,rfl,hk⟩
     ·cases hs
    ·cases h
   case clear=>
    simp only [xcall] at h
    simp only [WOp,WCall]
    split at h
    ·rename_i x T hx hT
     rw [hx,hT]
     obtain ⟨ti,h1,h2⟩:=Option.bind_eq_some_iff.1 h
     obtain ⟨s2,h3,h4⟩:=Option.map_eq_some_iff.1 h2
     cases h4
     exact ⟨ti,h1,wclear_of h3 hk⟩
    ·cases h
   case delete=>
    simp only [xcall] at h
    simp only [WOp,WCall]
    split at h
    ·rename_i x y T T2 hx hT
     rw [hx,hT]
     obtain ⟨ti,h1,h2⟩:=Option.bind_eq_some_iff.1 h
     obtain ⟨s2,h3,h4⟩:=Option.map_eq_some_iff.1 h2
     cases h4
     obtain ⟨kt,et,kti,h5,h6,h7⟩:=wdelete_of (k:=fun s'=>k (.tuple []) s') h3 hk
     exact ⟨ti,kt,et,kti,h1,h5,h6,h7⟩
    ·cases h
 case h_23=>
  obtain ⟨ti,h1,h2⟩:=Option.bind_eq_some_iff.1 h
  unfold xrange at h2
  split at h2 <;> cases h2
  rename_i t hkd hx
  exact ⟨ti,t,h1,hkd,hx,hk⟩
 case h_24=>exact wnext_of h hk
 case h_25=>cases h;exact hk
 case h_26=>
  obtain ⟨ti,h1,h2⟩:=Option.bind_eq_some_iff.1 h
  obtain ⟨p,h3,h4⟩:=Option.map_eq_some_iff.1 h2
  cases h4
  obtain ⟨kt,et,kti,h5,h6,h7⟩:=wlookup_of (k:=fun v b=>k (if _ = true then .tuple [v,.bool b] else v) s) h3 hk
  exact ⟨ti,kt,et,kti,h1,h5,h6,h7⟩
 case h_27=>
  obtain ⟨ti,h1,h2⟩:=Option.bind_eq_some_iff.1 h
  obtain ⟨s2,h3,h4⟩:=Option.map_eq_some_iff.1 h2
  cases h4
  obtain ⟨kt,et,kti,h5,h6,h7⟩:=wupdate_of (k:=fun s'=>k (.tuple []) s') h3 hk
  exact ⟨ti,kt,et,kti,h1,h5,h6,h7⟩
 case h_28=>
  obtain ⟨ti,h1,h2⟩:=Option.bind_eq_some_iff.1 h
  obtain ⟨s2,h3,h4⟩:=Option.map_eq_some_iff.1 h2
  cases h4
  obtain ⟨kt,et,kti,h5,h6,h7⟩:=wupdate_of (k:=fun s'=>k (.tuple []) s') h3 hk
  exact ⟨ti,kt,et,kti,h1,h5,h6,h7⟩
 case h_29=>
  obtain ⟨w,h1,h2⟩:=Option.map_eq_some_iff.1 h
  cases h2
  unfold notNilV at h1
  split at h1 <;> cases h1
  rename_i hn
  exact ⟨hn,hk⟩
 case h_30=>obtain ⟨ti,h1,h2⟩:=Option.bind_eq_some_iff.1 h;obtain ⟨w,h3,h4⟩:=Option.map_eq_some_iff.1 h2;cases h4;exact ⟨ti,h1,wslice3_of h3 hk⟩
 case h_31=>cases h
end
end Go.Pv
