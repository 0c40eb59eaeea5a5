import Derived.Test.YtbimioonhfhflaaDPvMem
set_option linter.unusedVariables false
set_option linter.unusedSimpArgs false
namespace Go.Pv
open Go Go.RowKit
theorem Addr.add_at (b o n : Nat) : (⟨b,o,none⟩ : Addr).add n = ⟨b,o + n,none⟩:=by
 unfold Addr.add;split
 ·subst_vars;rfl
 ·rfl
theorem cell_at {w : World} {b o : Nat} {cs : Array Value} {ty : TypeId} {fr : Nat × Nat} (h : w.heap[b]? = some (.cells cs ty fr)) : w.cell? ⟨b,o,none⟩ = cs[o]?:=by
 simp [World.cell?,h]
theorem run_loadCellsFrom {P : Program} {w : World} {b o : Nat} {cs : Array Value} {ty : TypeId} {fr : Nat × Nat} (h : w.heap[b]? = some (.cells cs ty fr)) (n : Nat) :
  ∀ (i : Nat) (acc : Array Value),o + i + n ≤ cs.size → (loadCellsFrom ⟨b,o,none⟩ i n acc).run P w = .ok (acc ++ cs.extract (o + i) (o + i + n)) w:=by
 induction n with
 | zero=>intro i acc hb;simp [loadCellsFrom];omega
 | succ n ih=>
  intro i acc hb
  have hc : w.cell? ⟨b,o + i,none⟩ = some cs[o + i]:=by rw [cell_at h,Array.getElem?_eq_getElem (by omega)]
  simp only [loadCellsFrom,Sem.run_bind,run_load,Addr.add_at,hc,Result.andThen_ok]
  rw [ih (i + 1) _ (by omega)]
  congr 1
  have h2 : o + (i + 1) = o + i + 1:=by omega
  have h3 : o + i + 1 + n = o + i + (n + 1):=by omega
  rw [h2,h3]
  apply Array.ext'
  simp only [Array.toList_append,Array.toList_push,Array.toList_extract,List.append_assoc,List.append_cancel_left_eq]
  have h1 : o + i < cs.toList.length:=by simpa using (show o + i < cs.size by omega)
  rw [List.extract_eq_take_drop,List.extract_eq_take_drop]
  rw [List.drop_eq_getElem_cons h1]
  have h4 : o + i + (n + 1) - (o + i) = n + 1:=by omega
  have h5 : o + i + (n + 1) - (o + i + 1) = n:=by omega
  rw [h4,h5,List.take_succ_cons]
  simp
theorem run_loadCells {P : Program} {w : World} {b o : Nat} {cs : Array Value} {ty : TypeId} {fr : Nat × Nat} (h : w.heap[b]? = some (.cells cs ty fr)) (n : Nat) (hb : o + n ≤ cs.size) :
  (loadCells ⟨b,o,none⟩ n).run P w = .ok (cs.extract o (o + n)) w:=by
 rw [loadCells,run_loadCellsFrom h n 0 #[] (by omega)]
 simp
def spliceA (cs : Array Value) (o : Nat) : List Value → Array Value
 | []=>cs
 | v :: vs=>spliceA (cs.setIfInBounds o v) (o + 1) vs
theorem spliceA_size (vs : List Value) : ∀ (cs : Array Value) (o : Nat),(spliceA cs o vs).size = cs.size:=by
 induction vs with
 | nil=>intros;rfl
 | cons v vs ih=>intro cs o;simp [spliceA,ih]
theorem spliceA_get (vs : List Value) : ∀ (cs : Array Value) (o j : Nat),o + vs.length ≤ cs.size → (spliceA cs o vs)[j]? = if o ≤ j ∧ j < o + vs.length then vs[j - o]? else cs[j]?:=by
 induction vs with
 | nil=>intro cs o j _;simp [spliceA];omega
 | cons v vs ih=>
  intro cs o j hb
  simp only [List.length_cons] at hb
  rw [spliceA,ih _ _ _ (by simp;omega)]
  simp only [List.length_cons]
  rcases Nat.lt_trichotomy j o with h | h | h
  ·rw [if_neg (by omega),if_neg (by omega),Array.getElem?_setIfInBounds,if_neg (by omega)]
  ·subst h
   rw [if_neg (by omega),if_pos (by omega),Array.getElem?_setIfInBounds,if_pos rfl,if_pos (by omega)];simp
  ·by_cases h2 : j < o + 1 + vs.length
   ·rw [if_pos (by omega),if_pos (by omega)]
    have : j - o = (j - (o + 1)) + 1:=by omega
    rw [this,List.getElem?_cons_succ]
   ·rw [if_neg (by omega),if_neg (by omega),Array.getElem?_setIfInBounds,if_neg (by omega)]
theorem setCell_block {w : World} {b o : Nat} {cs : Array Value} {ty : TypeId} {fr : Nat × Nat} (h : w.heap[b]? = some (.cells cs ty fr)) (v : Value) :
  w.setCell ⟨b,o,none⟩ v = { w with heap:=w.heap.setIfInBounds b (.cells (cs.setIfInBounds o v) ty fr) }:=by
 have hb : b < w.heap.size:=by rcases Nat.lt_or_ge b w.heap.size with h' | h';exact h';simp [Array.getElem?_eq_none h'] at h
 unfold World.setCell
 congr 1
 apply Array.ext_getElem?
 intro i
 rw [Array.getElem?_modify,Array.getElem?_setIfInBounds]
 by_cases e : b = i
 ·subst e
  have hx : w.heap[b] = .cells cs ty fr:=by rw [Array.getElem?_eq_getElem hb] at h;exact Option.some.inj h
  simp [hb,hx]
 ·simp [e]
theorem run_storeCells {P : Program} (vs : List Value) : ∀ {w : World} {b o : Nat} {cs : Array Value} {ty : TypeId} (i : Nat),w.heap[b]? = some (.cells cs ty (0,0)) → o + i + vs.length ≤ cs.size → (∀ v ∈ vs,v.oneCell' = true) →
  (storeCells ⟨b,o,none⟩ vs i).run P w = .ok () { w with heap:=w.heap.setIfInBounds b (.cells (spliceA cs (o + i) vs) ty (0,0)) }:=by
 induction vs with
 | nil=>
  intro w b o cs ty i h _ _
  have hb : b < w.heap.size:=by rcases Nat.lt_or_ge b w.heap.size with h' | h';exact h';simp [Array.getElem?_eq_none h'] at h
  have hx : w.heap[b] = .cells cs ty (0,0):=by rw [Array.getElem?_eq_getElem hb] at h;exact Option.some.inj h
  have : w.heap.setIfInBounds b (.cells cs ty (0,0)) = w.heap:=by
   apply Array.ext_getElem?
   intro j
   rw [Array.getElem?_setIfInBounds]
   by_cases e : b = j
   ·subst e;simp [hb,hx]
   ·simp [e]
  simp only [storeCells,Sem.run_pure,spliceA,this]
 | cons v vs ih=>
  intro w b o cs ty i h hsz hv
  have hb : b < w.heap.size:=by rcases Nat.lt_or_ge b w.heap.size with h' | h';exact h';simp [Array.getElem?_eq_none h'] at h
  simp only [List.length_cons] at hsz
  have hc : w.cell? ⟨b,o + i,none⟩ = some cs[o + i]:=by rw [cell_at h,Array.getElem?_eq_getElem (by omega)]
  have hf : w.frozen? ⟨b,o + i,none⟩ = false:=by simp [World.frozen?,h]
  rw [storeCells,Sem.run_bind,Addr.add_at,run_store P w _ v .plain (hv v (by simp))]
  simp only [hc,hf,Bool.false_eq_true,if_false,Result.andThen_ok]
  rw [setCell_block h]
  have h' : ({ w with heap:=w.heap.setIfInBounds b (.cells (cs.setIfInBounds (o + i) v) ty (0,0)) } : World).heap[b]? = some (.cells (cs.setIfInBounds (o + i) v) ty (0,0)):=by
   simp [Array.getElem?_setIfInBounds,hb]
  rw [ih (i + 1) h' (by simp;omega) (fun x hx=>hv x (by simp [hx]))]
  simp only [spliceA,Nat.add_assoc]
  congr 2
  apply Array.ext_getElem?
  intro j
  simp only [Array.getElem?_setIfInBounds,Array.size_setIfInBounds]
  by_cases e : b = j
  ·simp [e]
  ·simp [e]
inductive TK where
 | slice (e esz bytes : Nat) (agg : Bool) (zero : Option (List PV))
 | array (n e esz : Nat) (agg : Bool)
 | struct (fs : List (Nat × Nat × Nat × Bool))
 | pointer | int (k : IntKind) | bool | string | map (k e : Nat) | fn | iface | other
structure TI where
 size : Nat
 agg : Bool
 zero : Option (List PV)
 kind : TK
 eqs : Option (List (Nat × TK)):=none
def leafTK (P : Program) (T : TypeId) : TK:=match P.underlying T with
 | some (.int k)=>.int k
 | some .bool=>.bool
 | some .string=>.string
 | _=>.other
def eqsOf (P : Program) (T : TypeId) : Option (List (Nat × TK)):=match P.underlying T with
 | some (.struct fs) => if P.eqGuardType P.depth T = false ∧ P.stoodInHeld T = false ∧ (fs.toList.all fun f => decide (f.name ≠ "_")) = true then some (fs.toList.map fun f => (f.offset, leafTK P f.type)) else none
 | some (.array n e)=>if P.eqGuardType P.depth T = false ∧ (P.info? e).isSome = true ∧ n ≤ 16 then some ((List.range n).map fun j=>(j * P.cellsOf e,leafTK P e)) else none
 | _=>none
def aggOf (P : Program) (T : TypeId) : Bool:=match P.underlying T with
 | some (.struct _) | some (.array _ _)=>true
 | _=>false
def zeroOf (P : Program) (T : TypeId) : Option (List PV):=((P.info? T).bind (·.zero)).map fun z=>z.cells.toList.map (ofConst 3)
def tkOf (P : Program) : TypeDesc → TK
 | .slice e=>match P.info? e with | some i=>.slice e i.size i.bytes (aggOf P e) (zeroOf P e) | none=>.other
 | .array n e=>match P.info? e with | some i=>.array n e i.size (aggOf P e) | none=>.other
 | .struct fs=>if fs.toList.all (fun f=>((P.info? f.type).map (·.size)).getD 0 != 0 && (P.underlying f.type).isSome) then .struct (fs.toList.map fun f=>(f.offset,f.type,((P.info? f.type).map (·.size)).getD 0,aggOf P f.type)) else .other
 | .pointer _=>.pointer
 | .int k=>.int k
 | .bool=>.bool
 | .string=>.string
 | .map k e=>.map k e
 | .func _ _ _=>.fn
 | .interface _=>.iface
 | _=>.other
def tinfo (P : Program) (T : TypeId) : Option TI:=match P.info? T,P.underlying T with
 | some i,some d=>some { size:=i.size,agg:=aggOf P T,zero:=zeroOf P T,kind:=tkOf P d,eqs:=eqsOf P T }
 | _,_=>none
section
variable {P : Program} {w : World} {T : TypeId} {ti : TI}
theorem tinfo_some (h : tinfo P T = some ti) : ∃ i d,P.info? T = some i ∧ P.underlying T = some d ∧ ti = { size:=i.size,agg:=aggOf P T,zero:=zeroOf P T,kind:=tkOf P d,eqs:=eqsOf P T }:=by
 unfold tinfo at h
 split at h
 ·rename_i i d h1 h2;cases h;exact ⟨i,d,h1,h2,rfl⟩
 ·cases h
theorem run_underlying' {d : TypeDesc} (h : P.underlying T = some d) : (underlying T).run P w = .ok d w:=by simp [underlying,h]
theorem run_typeInfo' {i : TypeInfo} (h : P.info? T = some i) : (typeInfo T).run P w = .ok i w:=by simp [typeInfo,h]
theorem run_sizeOf' {i : TypeInfo} (h : P.info? T = some i) : (sizeOf T).run P w = .ok i.size w:=by simp [sizeOf,run_typeInfo' h]
theorem run_isAgg' {d : TypeDesc} (h : P.underlying T = some d) : (isAgg T).run P w = .ok (aggOf P T) w:=by
 simp only [isAgg,Sem.run_bind,run_underlying' h,Result.andThen_ok,aggOf,h]
 cases d <;> rfl
theorem tkOf_bool {d : TypeDesc} (h : tkOf P d = .bool) : d = .bool:=by
 cases d <;> simp only [tkOf] at h <;> first | rfl | (cases h;done) | (split at h <;> cases h)
theorem tkOf_string {d : TypeDesc} (h : tkOf P d = .string) : d = .string:=by
 cases d <;> simp only [tkOf] at h <;> first | rfl | (cases h;done) | (split at h <;> cases h)
theorem tkOf_int {d : TypeDesc} {k : IntKind} (h : tkOf P d = .int k) : d = .int k:=by
 cases d <;> simp only [tkOf] at h <;> first | (cases h;rfl) | (cases h;done) | (split at h <;> cases h)
theorem tkOf_slice {d : TypeDesc} {e esz by' : Nat} {ag : Bool} {z : Option (List PV)} (h : tkOf P d = .slice e esz by' ag z) : d = .slice e ∧ ∃ i,P.info? e = some i ∧ i.size = esz ∧ i.bytes = by' ∧ aggOf P e = ag ∧ zeroOf P e = z:=by
 cases d <;> simp only [tkOf] at h <;> first | (cases h;done) | (split at h <;> first | (cases h;done) | skip)
 rename_i i hi
 cases h
 exact ⟨rfl,i,hi,rfl,rfl,rfl,rfl⟩
theorem tkOf_array {d : TypeDesc} {n e esz : Nat} {ag : Bool} (h : tkOf P d = .array n e esz ag) : d = .array n e ∧ ∃ i,P.info? e = some i ∧ i.size = esz ∧ aggOf P e = ag:=by
 cases d <;> simp only [tkOf] at h <;> first | (cases h;done) | (split at h <;> first | (cases h;done) | skip)
 rename_i i hi
 cases h
 exact ⟨rfl,i,hi,rfl,rfl⟩
theorem tkOf_struct {d : TypeDesc} {fs : List (Nat × Nat × Nat × Bool)} (h : tkOf P d = .struct fs) : ∃ fields : Array Field,d = .struct fields ∧ fs = fields.toList.map (fun f => (f.offset,f.type,((P.info? f.type).map (·.size)).getD 0,aggOf P f.type)) ∧
  ∀ (j : Nat) (f : Field),fields[j]? = some f → ∃ i d,P.info? f.type = some i ∧ i.size ≠ 0 ∧ P.underlying f.type = some d:=by
 cases d <;> simp only [tkOf] at h <;> first | (cases h;done) | (split at h <;> first | (cases h;done) | skip)
 rename_i fields hall
 cases h
 refine ⟨fields,rfl,rfl,fun j f hf=>?_⟩
 have hne : ((P.info? f.type).map (·.size)).getD 0 ≠ 0 ∧ (P.underlying f.type).isSome:=by
  have:=List.all_eq_true.1 hall f (List.mem_of_getElem? (by rw [Array.getElem?_toList];exact hf))
  simpa using this
 obtain ⟨hne,hu⟩:=hne
 obtain ⟨fd,hfd⟩:=Option.isSome_iff_exists.1 hu
 cases hx : P.info? f.type with
 | none=>simp [hx] at hne
 | some fi=>exact ⟨fi,fd,rfl,by simpa [hx] using hne,hfd⟩
theorem run_loadVar (h : tinfo P T = some ti) {b o : Nat} {cs : Array Value} {ty : TypeId} {fr : Nat × Nat} (hb : w.heap[b]? = some (.cells cs ty fr)) (hsz : ti.agg = true → o + ti.size ≤ cs.size) (hc : ti.agg = false → o < cs.size) :
  (loadVar T ⟨b,o,none⟩).run P w = .ok (if ti.agg then .agg (cs.extract o (o + ti.size)) else cs.getD o undef) w:=by
 obtain ⟨i,d,h1,h2,rfl⟩:=tinfo_some h
 simp only [loadVar,Sem.run_bind,run_isAgg' h2,Result.andThen_ok]
 by_cases ha : aggOf P T = true
 ·simp only [ha,if_true,Sem.run_bind,run_sizeOf' h1,Result.andThen_ok,run_loadCells hb _ (hsz ha),Sem.run_pure]
 ·have ha' : aggOf P T = false := by simpa using ha
  have hx:=hc ha'
  simp only [ha',Bool.false_eq_true,if_false,run_load,cell_at hb,Array.getElem?_eq_getElem hx]
  simp [Array.getD,hx]
theorem run_storeVar (h : tinfo P T = some ti) {b o : Nat} {cs : Array Value} {ty : TypeId} (hb : w.heap[b]? = some (.cells cs ty (0,0))) {v : Value} (hv : v.cells.size = ti.size) (hsz : o + ti.size ≤ cs.size) (ho : ∀ x ∈ v.cells.toList,x.oneCell' = true) :
  (storeVar T ⟨b,o,none⟩ v).run P w = .ok () { w with heap:=w.heap.setIfInBounds b (.cells (spliceA cs o v.cells.toList) ty (0,0)) }:=by
 obtain ⟨i,d,h1,h2,rfl⟩:=tinfo_some h
 simp only [storeVar,Sem.run_bind,run_sizeOf' h1,Result.andThen_ok]
 simp only at hv hsz
 rw [if_neg (by simp [hv])]
 have:=run_storeCells (P:=P) v.cells.toList (o:=o) 0 hb (by simp [hv];omega) ho
 simpa using this
end
end Go.Pv
