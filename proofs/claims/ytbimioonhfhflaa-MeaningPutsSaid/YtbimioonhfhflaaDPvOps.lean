import Derived.Test.YtbimioonhfhflaaDPvRun
import Derived.Laws.Strings
import Derived.Laws.StructEq
import Derived.ChangeKeysEq
set_option linter.unusedVariables false
set_option linter.unusedSimpArgs false
namespace Go.Pv
open Go Go.RowKit
def cellsP : PV → Option (List PV)
 | .agg cs=>some cs
 | .any=>none
 | v=>some [v]
def isCell : PV → Bool
 | .agg _ | .tuple _ | .any=>false
 | _=>true
def spliceP (row : List PV) (off : Nat) (cs : List PV) : List PV:=row.take off ++ cs ++ row.drop (off + cs.length)
def readP (ti : TI) (row : List PV) (off : Nat) (k : PV → Prop) : Prop:=
 if ti.agg then off + ti.size ≤ row.length ∧ k (.agg ((row.drop off).take ti.size)) else ∃ v,row[off]? = some v ∧ k v
def rowAt (ti : TI) (z : Nat) (rows : List (List PV)) (r : Nat) : Option (List PV):=match z,ti.agg with
 | 1,true=>if r < rows.length then some (rows.drop r).flatten else none
 | _,_=>rows[r]?
def putAt (ti : TI) (z : Nat) (rows : List (List PV)) (r : Nat) (row : List PV) : List (List PV):=match z,ti.agg with
 | 1,true=>rows.take r ++ row.map fun c=>[c]
 | _,_=>rows.set r row
theorem rowA : (∀ {sz z r : Nat} {zo : Option (List PV)} {kd : TK} {eq : Option (List (Nat × TK))} {rows : List (List PV)},rowAt ⟨sz,false,zo,kd,eq⟩ z rows r = rows[r]?) ∧
  (∀ {z r : Nat} {ti : TI} {rows : List (List PV)},rowAt ti (z + 2) rows r = rows[r]?) ∧
  (∀ {sz z r : Nat} {zo : Option (List PV)} {kd : TK} {eq : Option (List (Nat × TK))} {rows : List (List PV)} {row : List PV},putAt ⟨sz,false,zo,kd,eq⟩ z rows r row = rows.set r row) ∧
  (∀ {z r : Nat} {ti : TI} {rows : List (List PV)} {row : List PV},putAt ti (z + 2) rows r row = rows.set r row):=by
 refine ⟨?_,rfl,?_,rfl⟩
 ·intro sz z r zo kd eq rows;unfold rowAt;split <;> simp_all
 ·intro sz z r zo kd eq rows row;unfold putAt;split <;> simp_all
def WLoad (ti : TI) (s : Store) (a : PV) (k : PV → Prop) : Prop:=
 match a with
 | .ptr i r off=>∃ z rows row,s[i]? = some (.rows z rows) ∧ rowAt ti z rows r = some row ∧ readP ti row off k
 | .iptr cells=>readP ti cells 0 k
 | _=>False
def WStore (ti : TI) (s : Store) (a x : PV) (k : Store → Prop) : Prop:=
 match a with
 | .ptr i r off => ∃ z rows row cs,s[i]? = some (.rows z rows) ∧ rowAt ti z rows r = some row ∧ cellsP x = some cs ∧ cs.length = ti.size ∧ off + cs.length ≤ row.length ∧ cs.all isCell = true ∧
   k (s.set i (.rows z (putAt ti z rows r (spliceP row off cs))))
 | _=>False
def intP (op : BinOp) (k : IntKind) (a b : Int) : Option PV:=
 match op with
 | .add=>some (.int k (k.wrap (a + b)))
 | .sub=>some (.int k (k.wrap (a - b)))
 | .mul=>some (.int k (k.wrap (a * b)))
 | .quo=>if b = 0 then none else some (.int k (k.wrap (a.tdiv b)))
 | .rem=>if b = 0 then none else some (.int k (a.tmod b))
 | .eql=>some (.bool (a == b))
 | .neq=>some (.bool (a != b))
 | .lss=>some (.bool (a < b))
 | .leq=>some (.bool (a ≤ b))
 | .gtr=>some (.bool (a > b))
 | .geq=>some (.bool (a ≥ b))
 | .and=>some (.int k (k.wrap ((BitVec.ofInt k.bits a &&& BitVec.ofInt k.bits b).toNat)))
 | .or=>some (.int k (k.wrap ((BitVec.ofInt k.bits a ||| BitVec.ofInt k.bits b).toNat)))
 | .xor=>some (.int k (k.wrap ((BitVec.ofInt k.bits a ^^^ BitVec.ofInt k.bits b).toNat)))
 | .andNot=>some (.int k (k.wrap ((BitVec.ofInt k.bits a &&& ~~~ BitVec.ofInt k.bits b).toNat)))
 | _=>none
def shiftP (op : BinOp) (k : IntKind) (a b : Int) : Option PV:=
 if b < 0 then none else match op with
 | .shl=>some (.int k (k.wrap (a * 2 ^ (min b.toNat k.bits))))
 | .shr=>some (.int k (a.fdiv (2 ^ (min b.toNat k.bits))))
 | _=>none
theorem str_beq (a b : ByteArray) : (a.toList == b.toList) = decide (a = b):=by
 rw [Bool.eq_iff_iff]
 simp only [beq_iff_eq,decide_eq_true_eq]
 refine ⟨fun h=>?_,fun h=>by rw [h]⟩
 rw [ByteArray.toList_eq,ByteArray.toList_eq] at h
 cases a;cases b;simp at h;rw [h]
def strP (op : BinOp) (a b : ByteArray) : Option PV:=
 match op with
 | .add=>if a.size + b.size ≤ maxLen then some (.str (a ++ b)) else none
 | .eql=>some (.bool (decide (a = b)))
 | .neq=>some (.bool (decide (a ≠ b)))
 | .lss=>some (.bool (Op.bytesLess a.toList b.toList))
 | .leq=>some (.bool (Op.bytesLess a.toList b.toList || a.toList == b.toList))
 | .gtr=>some (.bool (!(Op.bytesLess a.toList b.toList || a.toList == b.toList)))
 | .geq=>some (.bool (!Op.bytesLess a.toList b.toList))
 | _=>none
def plainEq : TK → PV → PV → Option Bool
 | .int _,.int k a,.int k' b=>if k = k' then some (a == b) else none
 | .bool,.bool a,.bool b=>some (a == b)
 | .string,.str a,.str b=>some (decide (a = b))
 | _,_,_=>none
def plainEqAt : List (Nat × TK) → List PV → List PV → Option Bool
 | [],_,_=>some true
 | (o,k) :: r,xs,ys=>(plainEq k ((xs[o]?).getD .any) ((ys[o]?).getD .any)).bind fun t=>(plainEqAt r xs ys).map fun u=>t && u
def binP (ti : TI) (op : BinOp) (x y : PV) : Option PV:=
 match x,y with
 | .int k a,.int k' b=>match op with
  | .shl | .shr=>shiftP op k a b
  | _=>if k = k' then intP op k a b else none
 | .str a,.str b=>strP op a b
 | .bool a,.bool b=>match ti.kind,op with
  | .bool,.eql=>some (.bool (a == b))
  | .bool,.neq=>some (.bool (!(a == b)))
  | _,_=>none
 | .nilsl,.nilsl=>match ti.kind,op with
  | .slice ..,.eql=>some (.bool true)
  | .slice ..,.neq=>some (.bool false)
  | _,_=>none
 | .list (_ :: _),.nilsl=>match ti.kind,op with
  | .slice ..,.eql=>some (.bool false)
  | .slice ..,.neq=>some (.bool true)
  | _,_=>none
 | .sl _ _ (_ + 1),.nilsl=>match ti.kind,op with
  | .slice ..,.eql=>some (.bool false)
  | .slice ..,.neq=>some (.bool true)
  | _,_=>none
 | .agg xs,.agg ys=>match ti.eqs,op with
  | some l,.eql=>(plainEqAt l xs ys).map fun t=>.bool t
  | some l,.neq=>(plainEqAt l xs ys).map fun t=>.bool (!t)
  | _,_=>none
 | _,_=>none
def lenP : PV → Option Nat
 | .str s=>some s.size
 | .list xs=>some xs.length
 | .sl _ _ n=>some n
 | .nilsl=>some 0
 | _=>none
def lenKind (ti : TI) : PV → Bool
 | .str _=>match ti.kind with | .string=>true | _=>false
 | .list _ | .sl _ _ _ | .nilsl=>match ti.kind with | .slice ..=>true | _=>false
 | _=>false
def WIndexAddr (ti : TI) (s : Store) (x ix : PV) (k : PV → Prop) : Prop:=
 ∃ kd i,ix = .int kd i ∧ 0 ≤ i ∧ match ti.kind,x with
 | .array n _ esz _,.ptr j r off=>i < n ∧ k (.ptr j r (off + i.toNat * esz))
 | .array n _ esz _,.iptr cells=>i < n ∧ i.toNat * esz ≤ cells.length ∧ k (.iptr (cells.drop (i.toNat * esz)))
 | .slice _ esz _ _ _,.list xs=>∃ row,xs[i.toNat]? = some row ∧ row.length = esz ∧ k (.iptr row)
 | .slice _ esz _ _ _,.sl j off len=>i < len ∧ ∃ rows,s[j]? = some (.rows esz rows) ∧ k (.ptr j (off + i.toNat) 0)
 | _,_=>False
def WFieldAddr (ti : TI) (x : PV) (f : Nat) (k : PV → Prop) : Prop:=
 ∃ fs off t sz ag,ti.kind = .struct fs ∧ fs[f]? = some (off,t,sz,ag) ∧ match x with
 | .ptr j r o=>k (.ptr j r (o + off))
 | .iptr cells=>off ≤ cells.length ∧ k (.iptr (cells.drop off))
 | _=>False
def WField (ti : TI) (x : PV) (f : Nat) (k : PV → Prop) : Prop:=
 ∃ fs off t sz ag,ti.kind = .struct fs ∧ fs[f]? = some (off,t,sz,ag) ∧ match x with
 | .agg cells=>readP { size:=sz,agg:=ag,zero:=none,kind:=.other } cells off k
 | _=>False
def OpOK (P : Program) (N : FrN) (o : Oper) (e : Env) (s : Store) (k : PV → Store → Prop) : Prop:=
 ∀ C pub σ a w next Q,SR C pub σ s w → ER pub σ N e a →
  (∀ v s' cv pub' σ' w',k v s' → SR C pub' σ' s' w' → ER pub' σ' N e a → Rel pub' σ' v cv → next (a.put o.dst cv) w') → o.wp P a w next Q
section
variable {P : Program} {N : FrN} {o : Oper} {e : Env} {s : Store} {k : PV → Store → Prop}
theorem wp_value {a : Act} {w w' : World} {next : Act → World → Prop} {Q : Exit → Act → World → Prop} {v : Value} (h : (execOp a.eval o).run P w = .ok (.value v) w') (hn : next (a.put o.dst v) w') : o.wp P a w next Q:=by
 simp [Oper.wp,Oper.upon,h,hn]
theorem wp_skip' {a : Act} {w w' : World} {next : Act → World → Prop} {Q : Exit → Act → World → Prop} (h : (execOp a.eval o).run P w = .ok .skip w') (hn : next (a.put o.dst undef) w') : o.wp P a w next Q:=by
 simp [Oper.wp,Oper.upon,h,hn]
def ReadOK (P : Program) (N : FrN) (o : Oper) (e : Env) (s : Store) (k : PV → Store → Prop) : Prop:=
 ∀ C pub σ a w,SR C pub σ s w → ER pub σ N e a → ∃ v cv,k v s ∧ Rel pub σ v cv ∧ (execOp a.eval o).run P w = .ok (.value cv) w
theorem OpOK.read (h : ReadOK P N o e s k) : OpOK P N o e s k:=by
 intro C pub σ a w next Q hs he hn
 obtain ⟨v,cv,hk,hr,hx⟩:=h C pub σ a w hs he
 exact wp_value hx (hn v s cv pub σ w hk hs he hr)
theorem cellsP_rel {pub : PHeap} {σ : Sig} {v : PV} {cs : List PV} {c : Value} (h : cellsP v = some cs) (hr : Rel pub σ v c) :
  c.cells.size = cs.length ∧ ∀ (j : Nat) (x : PV) (y : Value),cs[j]? = some x → c.cells[j]? = some y → Rel pub σ x y:=by
 cases hr with
 | agg hsz hr=>simp only [cellsP,Option.some.injEq] at h;subst h;exact ⟨hsz,hr⟩
 | any=>cases h
 | _=>
  simp only [cellsP,Option.some.injEq] at h;subst h
  refine ⟨rfl,fun j x y hx hy=>?_⟩
  cases j with
  | zero=>simp [Value.cells] at hx hy;subst hx hy;constructor <;> assumption
  | succ j=>simp at hx
theorem isCell_rel {pub : PHeap} {σ : Sig} {v : PV} {c : Value} (h : isCell v = true) (hr : Rel pub σ v c) : c.oneCell' = true:=by
 cases hr <;> first | rfl | (simp [isCell] at h)
theorem ok_move {x : Operand} (ho : o.op = .move x ∨ o.op = .assign x) (h : k (evO e x) s) : ReadOK P N o e s k:=
 fun C pub σ a w hs he=>⟨_,_,h,evO_rel he x,by rcases ho with ho | ho <;> simp [execOp,ho]⟩
theorem ok_pick {c x y : Operand} {t : Bool} (ho : o.op = .pick c x y) (hc : evO e c = .bool t) (h : k (if t then evO e x else evO e y) s) : ReadOK P N o e s k:=
 fun C pub σ a w hs he=>by
  have hr:=evO_rel he c
  rw [hc] at hr
  generalize hv : a.eval c = cv at hr
  cases hr
  refine ⟨_,_,h,?_,by simp [execOp,ho,hv,asBool];rfl⟩
  cases t
  ·exact evO_rel he y
  ·exact evO_rel he x
theorem ok_new {T : TypeId} {z : List PV} {cv : Act → Value} (hz : ∀ C pub σ a w,SR C pub σ s w → ER pub σ N e a → (cv a).cells.size = z.length ∧ (∀ (j : Nat) (x : PV) (y : Value),z[j]? = some x → (cv a).cells[j]? = some y → Rel pub σ x y) ∧
   (execOp a.eval o).run P w = .ok (.value (.pointer (some ⟨w.heap.size,0,none⟩))) { w with heap:=w.heap.push (.cells (cv a).cells T) })
  (h : k (.ptr s.length 0 0) (s ++ [.rows z.length [z]])) : OpOK P N o e s k:=by
 intro C pub σ a w next Q hs he hn
 obtain ⟨h1,h2,h3⟩:=hz C pub σ a w hs he
 have hle:=hs.toBase.le_add ⟨w.heap.size,0,z.length,1⟩
 refine wp_value h3 (hn _ _ _ pub (σ.add s.length ⟨w.heap.size,0,z.length,1⟩) _ h (hs.push _ _ ⟨w.heap.size,0,z.length,1⟩ rfl ?_) (he.mono PHeap.le.rfl' hle) ?_)
 ·refine ⟨_,Sig.add_same _ _ _,rfl,by simp,fun _ => ⟨hs.toBase.pub_size (Nat.le_refl _),(cv a).cells,T,by simp,by simp [h1],?_,?_⟩⟩
  ·intro r row hr
   cases r with
   | zero=>simp at hr;subst hr;rfl
   | succ r=>simp at hr
  ·intro r row j v c hr hj hc
   cases r with
   | zero=>simp at hr;subst hr;simp at hc;exact (h2 j v c hj hc).up hle
   | succ r=>simp at hr
 ·simpa using Rel.ptr (pub:=pub) (row:=0) (off:=0) (Sig.add_same σ s.length ⟨w.heap.size,0,z.length,1⟩)
theorem ok_alloc {T : TypeId} {z : List PV} (ho : o.op = .alloc T) (hz : zeroOf P T = some z) (h : k (.ptr s.length 0 0) (s ++ [.rows z.length [z]])) : OpOK P N o e s k:=by
 simp only [zeroOf,Option.map_eq_some_iff,Option.bind_eq_some_iff] at hz
 obtain ⟨zv,⟨i,hi,hzv⟩,rfl⟩:=hz
 refine ok_new (T:=T) (cv:=fun _=>zv) (fun C pub σ a w hs he=>⟨by simp,?_,?_⟩) h
 ·intro j x y hx hy
  simp only [List.getElem?_map,Array.getElem?_toList,hy,Option.map_some,Option.some.injEq] at hx
  subst hx;exact ofConst_rel _ _ _ _
 ·simp [execOp,ho,Instr.alloc,zeroValue,run_typeInfo' hi,hzv,newVar,newRow]
theorem ok_box {T : TypeId} {x : Operand} {z : List PV} (ho : o.op = .box T x) (hz : cellsP (evO e x) = some z) (h : k (.ptr s.length 0 0) (s ++ [.rows z.length [z]])) : OpOK P N o e s k:=by
 refine ok_new (T:=T) (cv:=fun a=>a.eval x) (fun C pub σ a w hs he=>?_) h
 have hx:=cellsP_rel hz (evO_rel he x)
 exact ⟨hx.1,hx.2,by simp [execOp,ho,Instr.box,newVar,newRow]⟩
theorem readP_run {T : TypeId} {ti : TI} (ht : tinfo P T = some ti) {pub : PHeap} {σ : Sig} {w : World} {b o : Nat} {cs : Array Value} {ty : TypeId} {fr : Nat × Nat} (hb : w.heap[b]? = some (.cells cs ty fr))
  {row : List PV} {off : Nat} {K : PV → Prop} (h : readP ti row off K) (hsz : o + row.length ≤ cs.size)
  (hr : ∀ (j : Nat) (v : PV) (c : Value),row[j]? = some v → cs[o + j]? = some c → Rel pub σ v c) :
  ∃ v cv,K v ∧ Rel pub σ v cv ∧ (loadVar T ⟨b,o + off,none⟩).run P w = .ok cv w:=by
 unfold readP at h
 by_cases ha : ti.agg = true
 ·rw [if_pos ha] at h
  have hrun:=run_loadVar (w:=w) ht hb (o:=o + off) (fun _=>by omega) (fun h'=>by rw [ha] at h';cases h')
  rw [if_pos ha] at hrun
  refine ⟨_,_,h.2,?_,hrun⟩
  ·refine .agg (by simp; omega) fun j v c hv hc => ?_
   rw [List.getElem?_take] at hv
   split at hv
   ·rename_i hj
    rw [List.getElem?_drop] at hv
    refine hr (off + j) v c hv ?_
    rw [Array.getElem?_extract] at hc
    split at hc
    ·rw [← Nat.add_assoc];exact hc
    ·cases hc
   ·cases hv
 ·rw [if_neg ha] at h
  obtain ⟨v,hv,hk⟩:=h
  have hlt : off < row.length:=by rcases Nat.lt_or_ge off row.length with h | h;exact h;simp [List.getElem?_eq_none h] at hv
  have ha' : ti.agg = false:=by simpa using ha
  have hrun:=run_loadVar (w:=w) ht hb (o:=o + off) (fun h'=>by rw [ha'] at h';cases h') (fun _=>by omega)
  rw [if_neg ha] at hrun
  refine ⟨v,_,hk,?_,hrun⟩
  ·have h2 : cs[o + off]? = some cs[o + off] := Array.getElem?_eq_getElem (by omega)
   have h3 : cs.getD (o + off) undef = cs[o + off]:=by simp [Array.getD,show o + off < cs.size by omega]
   rw [h3]
   exact hr off v _ hv h2
theorem SR.rows {C : Ctx} {pub : PHeap} {σ : Sig} {w : World} (hs : SR C pub σ s w) {i : Nat} {l : Loc} {z : Nat} {rs : List (List PV)} (hi : s[i]? = some (.rows z rs)) (hσ : σ i = some l) (hne : rs ≠ []) :
  0 < l.n ∧ rs.length ≤ l.n ∧ ∃ cs ty,w.heap[l.b]? = some (.cells cs ty (0,0)) ∧ l.o + l.n * l.esz ≤ cs.size ∧ RowsIn (Rel pub σ) rs cs l.o l.esz:=by
 obtain ⟨l',h1,hz,h2,h3⟩:=hs.obj i _ hi
 rw [hσ] at h1;cases h1
 have hn : 0 < l.n:=by
  cases rs with
  | nil=>exact absurd rfl hne
  | cons a b=>simp at h2;omega
 obtain ⟨h4,cs,ty,h5,h6,h7⟩:=h3 hn
 exact ⟨hn,h2,cs,ty,h5,h6,h7⟩
theorem row_fits {r n esz len : Nat} (h1 : r < len) (h2 : len ≤ n) : r * esz + esz ≤ n * esz:=by
 have : (r + 1) * esz ≤ n * esz:=Nat.mul_le_mul_right _ (by omega)
 rw [Nat.add_mul] at this;omega
theorem rowAt_cases {ti : TI} {z r : Nat} {rows : List (List PV)} {row : List PV} (h : rowAt ti z rows r = some row) :
  (rows[r]? = some row ∧ ∀ row',putAt ti z rows r row' = rows.set r row') ∨ (z = 1 ∧ r < rows.length ∧ row = (rows.drop r).flatten ∧ ∀ row',putAt ti z rows r row' = rows.take r ++ row'.map fun c=>[c]):=by
 unfold rowAt at h
 unfold putAt
 split at h
 ·split at h
  ·cases h;exact .inr ⟨rfl,by assumption,rfl,fun _=>by simp_all⟩
  ·cases h
 ·rename_i hne
  exact .inl ⟨h,fun row'=>rfl⟩
theorem flat1_get : ∀ (rs : List (List PV)),(∀ row ∈ rs,row.length = 1) → rs.flatten.length = rs.length ∧ ∀ (j : Nat) (v : PV),rs.flatten[j]? = some v → rs[j]? = some [v]
 | [],_=>⟨rfl,fun j v h=>by simp at h⟩
 | row :: rs,h=>by
  obtain ⟨h1,h2⟩:=flat1_get rs fun r hr=>h r (List.mem_cons_of_mem _ hr)
  have h3:=h row List.mem_cons_self
  match row,h3 with
  | [x],_=>
   refine ⟨by simp [h1],fun j v hv=>?_⟩
   cases j with
   | zero=>simp at hv;simp [hv]
   | succ j=>simp at hv;simpa using h2 j v (by simpa using hv)
theorem rowAt_ok {C : Ctx} {pub : PHeap} {σ : Sig} {w : World} (hs : SR C pub σ s w) {i : Nat} {l : Loc} {z : Nat} {rs : List (List PV)} (hi : s[i]? = some (.rows z rs)) (hσ : σ i = some l) {ti : TI} {r : Nat} {row : List PV} (h : rowAt ti z rs r = some row) :
  0 < l.n ∧ ∃ cs ty,w.heap[l.b]? = some (.cells cs ty (0,0)) ∧ l.o + r * l.esz + row.length ≤ cs.size ∧ ∀ (j : Nat) (v : PV) (c : Value),row[j]? = some v → cs[l.o + r * l.esz + j]? = some c → Rel pub σ v c:=by
 have hlt : r < rs.length:=by
  rcases rowAt_cases h with ⟨h,_⟩ | ⟨_,h,_⟩
  ·rcases Nat.lt_or_ge r rs.length with h1 | h1;exact h1;simp [List.getElem?_eq_none h1] at h
  ·exact h
 obtain ⟨hn,hle,cs,ty,hb,hsz,hR⟩:=hs.rows hi hσ (by rintro rfl;simp at hlt)
 have hf:=row_fits (esz:=l.esz) hlt hle
 refine ⟨hn,cs,ty,hb,?_⟩
 rcases rowAt_cases h with ⟨h,_⟩ | ⟨hz,_,rfl,_⟩
 ·have hw := hR.wide r row h
  exact ⟨by omega,fun j v c h1 h2=>hR.rel r row j v c h h1 h2⟩
 ·have hz1 : l.esz = 1 := by
   obtain ⟨l',h1,hz',_⟩:=hs.obj i _ hi
   rw [hσ] at h1;cases h1;omega
  obtain ⟨f1,f2⟩:=flat1_get (rs.drop r) fun row hr=>by
   obtain ⟨j,hj⟩:=List.mem_iff_getElem?.1 hr
   rw [List.getElem?_drop] at hj
   rw [hR.wide _ _ hj,hz1]
  have hm : rs.length * l.esz ≤ l.n * l.esz:=Nat.mul_le_mul_right _ hle
  rw [f1,List.length_drop]
  rw [hz1] at hsz hm ⊢
  refine ⟨by omega,fun j v c h1 h2=>?_⟩
  have h3:=f2 j v h1
  rw [List.getElem?_drop] at h3
  refine hR.rel (r + j) [v] 0 v c h3 rfl ?_
  rw [hz1,← h2];congr 1;omega
theorem ok_load {T : TypeId} {x : Operand} {ti : TI} (ho : o.op = .load T x) (ht : tinfo P T = some ti) (h : WLoad ti s (evO e x) fun v=>k v s) : ReadOK P N o e s k:=
 fun C pub σ a w hs he=>by
  have hr:=evO_rel he x
  unfold WLoad at h
  split at h
  ·rename_i i r off heq
   rw [heq] at hr
   obtain ⟨z,rows,row,hi,hrow,h⟩:=h
   generalize hv : a.eval x = cv at hr
   cases hr with
   | ptr hσ=>
    rename_i l
    obtain ⟨hn,cs,ty,hb,hsz,hR⟩:=rowAt_ok hs hi hσ hrow
    obtain ⟨v,cv,hk,hrel,hrun⟩:=readP_run ht hb (o:=l.o + r * l.esz) h hsz hR
    exact ⟨v,cv,hk,hrel,by simp [execOp,ho,hv,Instr.loadAt,Instr.sureAddr,hrun]⟩
  ·rename_i cells heq
   rw [heq] at hr
   generalize hv : a.eval x = cv at hr
   cases hr with
   | iptr hb hsz hrel=>
    rename_i b o' cs ty fr
    obtain ⟨v,cv,hk,hrel,hrun⟩:=readP_run (σ:=σ) ht (hs.pubIn _ _ hb) (o:=o') h hsz fun j v c h1 h2=>(hrel j v c h1 h2).up (noSig_le σ)
    rw [Nat.add_zero] at hrun
    exact ⟨v,cv,hk,hrel,by simp [execOp,ho,hv,Instr.loadAt,Instr.sureAddr,hrun]⟩
  ·exact h.elim
theorem splice_get {row cs : List PV} {off j : Nat} (hb : off + cs.length ≤ row.length) : (spliceP row off cs)[j]? = if off ≤ j ∧ j < off + cs.length then cs[j - off]? else row[j]?:=by
 unfold spliceP
 rcases Nat.lt_or_ge j off with h | h
 ·rw [if_neg (by omega),List.append_assoc,List.getElem?_append_left (by simp;omega),List.getElem?_take,if_pos h]
 ·by_cases h2 : j < off + cs.length
  ·rw [if_pos (by omega),List.getElem?_append_left (by simp; omega),List.getElem?_append_right (by simp; omega)]
   congr 1;simp;omega
  ·rw [if_neg (by omega),List.getElem?_append_right (by simp; omega),List.getElem?_drop]
   congr 1;simp;omega
theorem splice_length {row cs : List PV} {off : Nat} (hb : off + cs.length ≤ row.length) : (spliceP row off cs).length = row.length:=by
 simp [spliceP];omega
theorem ok_store {T : TypeId} {x y : Operand} {ti : TI} (ho : o.op = .store T x y) (ht : tinfo P T = some ti) (h : WStore ti s (evO e x) (evO e y) fun s'=>k (.tuple []) s') : OpOK P N o e s k:=by
 intro C pub σ a w next Q hs he hnext
 have hr:=evO_rel he x
 have hry:=evO_rel he y
 unfold WStore at h
 split at h
 case h_2=>exact h.elim
 rename_i i r off heq
 rw [heq] at hr
 obtain ⟨z,rows,row,cs,hi,hrow,hcs,hlen,hfit,hcell,hk⟩:=h
 generalize hv : a.eval x = cv at hr
 cases hr with
 | ptr hσ=>
  rename_i l
  rcases rowAt_cases hrow with ⟨hrow,hput⟩ | ⟨hz1,hlt,rfl,hput⟩
  case inr=>
   rw [hput] at hk
   obtain ⟨hn,hle,ca,ty,hb,hsz,hR⟩:=hs.rows hi hσ (by rintro rfl;simp at hlt)
   have hle1 : l.esz = 1:=by
    obtain ⟨l',h1,hz',_⟩:=hs.obj i _ hi
    rw [hσ] at h1;cases h1;omega
   obtain ⟨f1,f2⟩:=flat1_get (rows.drop r) fun row hr=>by
    obtain ⟨j,hj⟩:=List.mem_iff_getElem?.1 hr
    rw [List.getElem?_drop] at hj
    rw [hR.wide _ _ hj,hle1]
   rw [List.length_drop] at f1
   have hm : rows.length * l.esz ≤ l.n * l.esz:=Nat.mul_le_mul_right _ hle
   rw [hle1] at hm hsz
   have hy:=cellsP_rel hcs hry
   have hone : ∀ z ∈ (a.eval y).cells.toList,z.oneCell' = true:=by
    intro z hz
    obtain ⟨j,hj⟩:=List.mem_iff_getElem?.1 hz
    rw [Array.getElem?_toList] at hj
    have hjl : j < cs.length:=by
     rcases Nat.lt_or_ge j (a.eval y).cells.size with h | h
     ·omega
     ·simp [Array.getElem?_eq_none h] at hj
    have hx : cs[j]? = some cs[j]:=List.getElem?_eq_getElem hjl
    exact isCell_rel (List.all_eq_true.1 hcell _ (List.getElem_mem hjl)) (hy.2 j _ _ hx hj)
   have hrun:=run_storeVar (w:=w) ht hb (o:=l.o + r * l.esz + off) (v:=a.eval y) (by omega) (by rw [hle1];omega) hone
   have hsl:=splice_length hfit
   have hle':=hle
   have hlb:=(ObjOK.alive hs.obj ⟨_,hi,by simp,hσ,hn⟩)
   refine wp_skip' (w':=_) ?_ (hnext _ _ _ pub σ _ hk (hs.write hi (by simp) hσ hn (.rows z (rows.take r ++ (spliceP (rows.drop r).flatten off cs).map fun c=>[c])) (.cells (spliceA ca (l.o + r * l.esz + off) (a.eval y).cells.toList) ty (0,0)) (by simp) ?_) he ?_)
   ·simp [execOp,ho,hv,Instr.storeAt,Instr.sureAddr,hrun]
   ·refine ⟨l,hσ,by omega,by simp only [List.length_append,List.length_take,List.length_map]; omega,fun _ => ⟨hlb.1,spliceA ca (l.o + r * l.esz + off) (a.eval y).cells.toList,ty,?_,?_,?_,?_⟩⟩
    ·simp [Array.getElem?_setIfInBounds,hlb.2]
    ·rw [spliceA_size,hle1];omega
    ·intro r' row' hr'
     rw [List.getElem?_append] at hr'
     split at hr'
     ·rw [List.getElem?_take] at hr'
      split at hr'
      ·exact hR.wide r' row' hr'
      ·cases hr'
     ·rw [List.getElem?_map,Option.map_eq_some_iff] at hr'
      obtain ⟨c,_,rfl⟩:=hr'
      rw [hle1];rfl
    ·intro r' row' j v c hr' hj hc
     rw [spliceA_get _ _ _ _ (by rw [hle1];simp only [Array.length_toList];omega)] at hc
     have hlc : (a.eval y).cells.toList.length = cs.length:=by simp [hy.1]
     rw [hlc,hle1] at hc
     rw [List.getElem?_append,List.length_take] at hr'
     split at hr'
     ·rename_i hlr
      rw [List.getElem?_take] at hr'
      split at hr'
      ·rename_i hr2
       have hw:=hR.wide r' row' hr'
       have hj1 : j < row'.length:=by rcases Nat.lt_or_ge j row'.length with h | h;exact h;simp [List.getElem?_eq_none h] at hj
       rw [if_neg (by omega)] at hc
       refine hR.rel r' row' j v c hr' hj ?_
       rw [hle1];exact hc
      ·cases hr'
     ·rename_i hlr
      rw [List.getElem?_map,Option.map_eq_some_iff] at hr'
      obtain ⟨d,hd,rfl⟩:=hr'
      have hj0 : j = 0:=by
       have hj1 : j < [d].length:=by rcases Nat.lt_or_ge j [d].length with h | h;exact h;simp [List.getElem?_eq_none h] at hj
       simp at hj1;exact hj1
      subst hj0
      simp only [List.getElem?_cons_zero,Option.some.injEq] at hj
      subst hj
      have hmin : min r rows.length = r:=by omega
      rw [hmin] at hd hlr
      rw [splice_get hfit] at hd
      by_cases hin : off ≤ r' - r ∧ r' - r < off + cs.length
      ·rw [if_pos hin] at hd
       rw [if_pos (by omega)] at hc
       refine hy.2 (r' - r - off) d c hd ?_
       rw [← Array.getElem?_toList,← hc];congr 1;omega
      ·rw [if_neg hin] at hd
       rw [if_neg (by omega)] at hc
       have h3:=f2 _ d hd
       rw [List.getElem?_drop] at h3
       refine hR.rel r' [d] 0 d c ?_ rfl ?_
       ·rw [← h3];congr 1;omega
       ·rw [hle1];exact hc
   ·exact .tuple rfl fun j v c h=>by simp at h
  rw [hput] at hk
  have hlt : r < rows.length:=by rcases Nat.lt_or_ge r rows.length with h | h;exact h;simp [List.getElem?_eq_none h] at hrow
  obtain ⟨hn,hle,ca,ty,hb,hsz,hR⟩:=hs.rows hi hσ (by rintro rfl;simp at hlt)
  have hw:=hR.wide r row hrow
  have hf:=row_fits (esz:=l.esz) hlt hle
  have hy:=cellsP_rel hcs hry
  have hone : ∀ z ∈ (a.eval y).cells.toList,z.oneCell' = true:=by
   intro z hz
   obtain ⟨j,hj⟩:=List.mem_iff_getElem?.1 hz
   rw [Array.getElem?_toList] at hj
   have hjl : j < cs.length:=by
    rcases Nat.lt_or_ge j (a.eval y).cells.size with h | h
    ·omega
    ·simp [Array.getElem?_eq_none h] at hj
   have hx : cs[j]? = some cs[j]:=List.getElem?_eq_getElem hjl
   exact isCell_rel (List.all_eq_true.1 hcell _ (List.getElem_mem hjl)) (hy.2 j _ _ hx hj)
  have hrun:=run_storeVar (w:=w) ht hb (o:=l.o + r * l.esz + off) (v:=a.eval y) (by omega) (by omega) hone
  refine wp_skip' (w':=_) ?_ (hnext _ _ _ pub σ _ hk (hs.write hi (by simp) hσ hn (.rows z (rows.set r (spliceP row off cs))) (.cells (spliceA ca (l.o + r * l.esz + off) (a.eval y).cells.toList) ty (0,0)) (by simp) ?_) he ?_)
  ·simp [execOp,ho,hv,Instr.storeAt,Instr.sureAddr,hrun]
  ·have hz : l.esz = z := by
    obtain ⟨l',h1,hz,_⟩:=hs.obj i _ hi
    rw [hσ] at h1;cases h1;exact hz
   refine ⟨l,hσ,hz,by simpa using hle,fun _=>⟨(ObjOK.alive hs.obj ⟨_,hi,by simp,hσ,hn⟩).1,spliceA ca (l.o + r * l.esz + off) (a.eval y).cells.toList,ty,?_,?_,?_,?_⟩⟩
   ·have hlb := (ObjOK.alive hs.obj ⟨_,hi,by simp,hσ,hn⟩).2
    simp [Array.getElem?_setIfInBounds,hlb]
   ·rw [spliceA_size];exact hsz
   ·intro r' row' hr'
    by_cases e1 : r' = r
    ·subst e1;rw [List.getElem?_set_self hlt] at hr';cases hr';rw [splice_length hfit,hw]
    ·rw [List.getElem?_set_ne (by omega)] at hr';exact hR.wide r' row' hr'
   ·intro r' row' j v c hr' hj hc
    have hlr' : r' < rows.length:=by
     rcases Nat.lt_or_ge r' rows.length with h | h;exact h;simp [List.getElem?_eq_none,h] at hr'
    rw [spliceA_get _ _ _ _ (by simp;omega)] at hc
    have hlc : (a.eval y).cells.toList.length = cs.length:=by simp [hy.1]
    rw [hlc] at hc
    by_cases e1 : r' = r
    ·subst e1
     rw [List.getElem?_set_self hlt] at hr';cases hr'
     rw [splice_get hfit] at hj
     by_cases hin : off ≤ j ∧ j < off + cs.length
     ·rw [if_pos hin] at hj
      rw [if_pos (by omega)] at hc
      refine hy.2 (j - off) v c hj ?_
      rw [← Array.getElem?_toList,← hc];congr 1;omega
     ·rw [if_neg hin] at hj
      rw [if_neg (by omega)] at hc
      exact hR.rel r' row j v c hrow hj hc
    ·rw [List.getElem?_set_ne (by omega)] at hr'
     have hjl : j < l.esz:=by
      have:=hR.wide r' row' hr'
      rcases Nat.lt_or_ge j row'.length with h | h
      ·omega
      ·simp [List.getElem?_eq_none h] at hj
     have hne : ¬ (l.o + r * l.esz + off ≤ l.o + r' * l.esz + j ∧ l.o + r' * l.esz + j < l.o + r * l.esz + off + cs.length):=by
      rcases Nat.lt_or_gt_of_ne e1 with h | h
      ·have : (r' + 1) * l.esz ≤ r * l.esz := Nat.mul_le_mul_right _ (by omega)
       rw [Nat.add_mul] at this;omega
      ·have : (r + 1) * l.esz ≤ r' * l.esz := Nat.mul_le_mul_right _ (by omega)
       rw [Nat.add_mul] at this;omega
     rw [if_neg hne] at hc
     exact hR.rel r' row' j v c hr' hj hc
  ·exact .tuple rfl fun j v c h=>by simp at h
theorem equal_succ (T : TypeId) (x y : Value) : Op.equal T x y = Op.equalIn (9999 + 1) T x y:=rfl
theorem run_equal_bool {w : World} {T : TypeId} (h : P.underlying T = some .bool) (a b : Bool) : (Op.equal T (.bool a) (.bool b)).run P w = .ok (a == b) w:=by
 rw [equal_succ,Op.equalIn];simp [run_underlying' h]
theorem run_equal_nil {w : World} {T el : TypeId} (h : P.underlying T = some (.slice el)) (b : Option Addr) (n c n' c' : Nat) : (Op.equal T (.slice none n c) (.slice b n' c')).run P w = .ok b.isNone w:=by
 rw [equal_succ,Op.equalIn];simp [run_underlying' h]
theorem run_equal_nil' {w : World} {T el : TypeId} (h : P.underlying T = some (.slice el)) (b : Addr) (n c n' c' : Nat) : (Op.equal T (.slice (some b) n c) (.slice none n' c')).run P w = .ok false w:=by
 rw [equal_succ,Op.equalIn];simp [run_underlying' h]
theorem binOp_eql_bool (T : TypeId) (a b : Bool) : binOp .eql T (.bool a) (.bool b) = (do pure (.bool (← Op.equal T (.bool a) (.bool b))) : Sem Value):=rfl
theorem binOp_neq_bool (T : TypeId) (a b : Bool) : binOp .neq T (.bool a) (.bool b) = (do pure (.bool (!(← Op.equal T (.bool a) (.bool b)))) : Sem Value):=rfl
theorem binOp_eql_sl (T : TypeId) (a b : Option Addr) (n c n' c' : Nat) : binOp .eql T (.slice a n c) (.slice b n' c') = (do pure (.bool (← Op.equal T (.slice a n c) (.slice b n' c'))) : Sem Value):=rfl
theorem binOp_neq_sl (T : TypeId) (a b : Option Addr) (n c n' c' : Nat) : binOp .neq T (.slice a n c) (.slice b n' c') = (do pure (.bool (!(← Op.equal T (.slice a n c) (.slice b n' c')))) : Sem Value):=rfl
theorem leaf_agg {T : TypeId} (h : leafTK P T ≠ .other) : ∃ d,P.underlying T = some d ∧ aggOf P T = false:=by
 unfold leafTK at h
 unfold aggOf
 cases hu : P.underlying T with
 | none=>rw [hu] at h;exact absurd rfl h
 | some d=>rw [hu] at h;refine ⟨d,rfl,?_⟩;cases d <;> first | rfl | exact absurd rfl h
theorem run_plain {w : World} {T : TypeId} {pub : PHeap} {σ : Sig} {x y : PV} {c c' : Value} {t : Bool} (d : Nat) (h : plainEq (leafTK P T) x y = some t) (hx : Rel pub σ x c) (hy : Rel pub σ y c') : (Op.equalIn (d + 1) T c c').run P w = .ok t w:=by
 unfold plainEq leafTK at h
 split at h
 ·rename_i hk
  split at hk <;> first | (cases hk;done) | skip
  rename_i hu
  split at h
  ·rename_i hkk;subst hkk;cases h;cases hx;cases hy;exact run_equalIn_int w d T _ _ _ _ hu
  ·cases h
 ·rename_i hk
  split at hk <;> first | (cases hk;done) | skip
  rename_i hu
  cases h;cases hx;cases hy;exact run_equalIn_bool' w d T _ _ hu
 ·rename_i hk
  split at hk <;> first | (cases hk;done) | skip
  rename_i hu
  cases h;cases hx;cases hy;rw [run_equalIn_string w d T _ _ hu,str_beq]
 ·cases h
theorem plain_other {x y : PV} : plainEq .other x y = none:=by cases x <;> cases y <;> rfl
theorem plain_any {k : TK} {y : PV} : plainEq k .any y = none:=by cases k <;> cases y <;> rfl
theorem plain_any' {k : TK} {x : PV} : plainEq k x .any = none:=by cases k <;> cases x <;> rfl
theorem run_part_leaf {w : World} {T : TypeId} {cs : Array Value} {off : Nat} (h : leafTK P T ≠ .other) (hc : off < cs.size) : (part T cs off).run P w = .ok cs[off] w:=by
 obtain ⟨d,hd,ha⟩:=leaf_agg h
 simp only [part,Sem.run_bind,run_isAgg' hd,Result.andThen_ok]
 simp [ha,Array.getElem?_eq_getElem hc]
theorem run_fields {w : World} {pub : PHeap} {σ : Sig} {xs ys : List PV} {xa ya : Array Value} (d : Nat) (hx : RelA pub σ xs xa) (hy : RelA pub σ ys ya) : ∀ (fs : List Field) (t : Bool), (fs.all fun f => decide (f.name ≠ "_")) = true →
  plainEqAt (fs.map fun f=>(f.offset,leafTK P f.type)) xs ys = some t → (Op.eqFields (d + 1) xa ya fs).run P w = .ok t w:=by
 intro fs
 induction fs with
 | nil=>intro t _ h;cases h;rfl
 | cons f r ih=>
  intro t hn h
  simp only [List.all_cons,Bool.and_eq_true,decide_eq_true_eq] at hn
  simp only [List.map_cons,plainEqAt,Option.bind_eq_some_iff,Option.map_eq_some_iff] at h
  obtain ⟨t1,h1,t2,h2,rfl⟩:=h
  have hleaf : leafTK P f.type ≠ .other:=by intro e;rw [e,plain_other] at h1;cases h1
  cases hxo : xs[f.offset]? with
  | none=>rw [hxo,Option.getD_none,plain_any] at h1;cases h1
  | some xv=>
   cases hyo : ys[f.offset]? with
   | none=>rw [hyo,Option.getD_none,plain_any'] at h1;cases h1
   | some yv=>
    have hx1 : f.offset < xa.size:=by rw [hx.1];rcases Nat.lt_or_ge f.offset xs.length with h | h;exact h;rw [List.getElem?_eq_none h] at hxo;cases hxo
    have hy1 : f.offset < ya.size:=by rw [hy.1];rcases Nat.lt_or_ge f.offset ys.length with h | h;exact h;rw [List.getElem?_eq_none h] at hyo;cases hyo
    rw [hxo,hyo,Option.getD_some,Option.getD_some] at h1
    have he:=run_plain (w:=w) d h1 (hx.2 _ _ _ hxo (Array.getElem?_eq_getElem hx1)) (hy.2 _ _ _ hyo (Array.getElem?_eq_getElem hy1))
    simp only [Op.eqFields]
    rw [if_pos hn.1]
    simp only [Sem.run_bind,run_part_leaf hleaf hx1,run_part_leaf hleaf hy1,Result.andThen_ok,he]
    cases t1
    ·simp
    ·simp [ih t2 hn.2 h2]
theorem run_items {w : World} {pub : PHeap} {σ : Sig} {xs ys : List PV} {xa ya : Array Value} {e : TypeId} {n : Nat} (d : Nat) (hx : RelA pub σ xs xa) (hy : RelA pub σ ys ya) : ∀ (is : List Nat) (t : Bool),
  plainEqAt (is.map fun j=>(j * n,leafTK P e)) xs ys = some t → (Op.eqItems (d + 1) e n xa ya is).run P w = .ok t w:=by
 intro is
 induction is with
 | nil=>intro t h;cases h;rfl
 | cons f r ih=>
  intro t h
  simp only [List.map_cons,plainEqAt,Option.bind_eq_some_iff,Option.map_eq_some_iff] at h
  obtain ⟨t1,h1,t2,h2,rfl⟩:=h
  have hleaf : leafTK P e ≠ .other:=by intro e;rw [e,plain_other] at h1;cases h1
  cases hxo : xs[f * n]? with
  | none=>rw [hxo,Option.getD_none,plain_any] at h1;cases h1
  | some xv=>
   cases hyo : ys[f * n]? with
   | none=>rw [hyo,Option.getD_none,plain_any'] at h1;cases h1
   | some yv=>
    have hx1 : f * n < xa.size:=by rw [hx.1];rcases Nat.lt_or_ge (f * n) xs.length with h | h;exact h;rw [List.getElem?_eq_none h] at hxo;cases hxo
    have hy1 : f * n < ya.size:=by rw [hy.1];rcases Nat.lt_or_ge (f * n) ys.length with h | h;exact h;rw [List.getElem?_eq_none h] at hyo;cases hyo
    rw [hxo,hyo,Option.getD_some,Option.getD_some] at h1
    have he:=run_plain (w:=w) d h1 (hx.2 _ _ _ hxo (Array.getElem?_eq_getElem hx1)) (hy.2 _ _ _ hyo (Array.getElem?_eq_getElem hy1))
    simp only [Op.eqItems,Sem.run_bind,run_part_leaf hleaf hx1,run_part_leaf hleaf hy1,Result.andThen_ok,he]
    cases t1
    ·simp
    ·simp [ih t2 h2]
theorem ok_binOp {op : BinOp} {T T' : TypeId} {x y : Operand} {ti : TI} {v : PV} (ho : o.op = .binOp op T x y T') (ht : tinfo P T = some ti) (hv : binP ti op (evO e x) (evO e y) = some v) (h : k v s) : ReadOK P N o e s k:=
  fun C pub σ a w hs he=>by
    obtain ⟨i, d, h1, h2, rfl⟩:=tinfo_some ht
    have hx:=evO_rel he x
    have hy:=evO_rel he y
    refine ⟨v, ?_⟩
    generalize evO e x = px at hv hx
    generalize evO e y = py at hv hy
    generalize hax : a.eval x = cx at hx
    generalize hay : a.eval y = cy at hy
    suffices hh : ∃ cv, Rel pub σ v cv ∧ (do eqGuard op T x y cx cy;binOp op T cx cy : Sem Value).run P w = .ok cv w by
      obtain ⟨cv, h3, h4⟩:=hh
      have h4' : (eqGuard op T x y cx cy >>= fun _=>binOp op T cx cy).run P w = .ok cv w:=h4
      exact ⟨cv, h, h3, by simp only [execOp, ho, hax, hay, Sem.run_bind] at h4' ⊢;rw [h4'];rfl⟩
    unfold binP at hv
    split at hv
    · rename_i k1 n1 k2 n2
      cases hx;cases hy
      have hg : (eqGuard op T x y (.int k1 n1) (.int k2 n2)).run P w = .ok () w:=by
        unfold eqGuard;split <;> rfl
      simp only [Sem.run_bind, hg, Result.andThen_ok]
      split at hv
      · unfold shiftP at hv
        split at hv
        · cases hv
        · rename_i hb
          cases hv
          exact ⟨_, .int, by simp [binOp, Op.shift, hb]⟩
      · unfold shiftP at hv
        split at hv
        · cases hv
        · rename_i hb
          cases hv
          exact ⟨_, .int, by simp [binOp, Op.shift, hb]⟩
      · rename_i hs1 hs2
        split at hv
        · rename_i hk; subst hk
          have hbin : binOp op T (.int k1 n1) (.int k1 n2) = match op with
              | .add | .sub | .mul=>Op.intArith op k1 n1 n2
              | .quo | .rem=>Op.intDiv op k1 n1 n2
              | .and | .or | .xor | .andNot=>Op.intBits op k1 n1 n2
              | _=>Op.intCmp op n1 n2:=by
            cases op <;> first | rfl | (exact absurd rfl hs1) | (exact absurd rfl hs2) | (simp [binOp])
          rw [hbin]
          cases op <;> simp only [intP] at hv <;> first
            | (cases hv;done)
            | (cases hv;exact ⟨_, .int, by simp [Op.intArith, Op.intBits, Op.intCmp]⟩)
            | (cases hv;exact ⟨_, .bool, by simp [Op.intArith, Op.intBits, Op.intCmp]⟩)
            | (split at hv
               · cases hv
               · rename_i hz;cases hv;exact ⟨_, .int, by simp [Op.intDiv, hz]⟩)
        · cases hv
    · rename_i s1 s2
      cases hx;cases hy
      have hg : (eqGuard op T x y (.string s1) (.string s2)).run P w = .ok () w:=by
        unfold eqGuard;split <;> rfl
      simp only [Sem.run_bind, hg, Result.andThen_ok]
      have hbin : binOp op T (.string s1) (.string s2) = Op.stringOp op s1 s2:=by
        cases op <;> rfl
      rw [hbin]
      cases op <;> simp only [strP] at hv <;> first
        | (cases hv;done)
        | (cases hv;exact ⟨_, .bool, by simp [Op.stringOp, str_beq]⟩)
        | (split at hv
           · rename_i hm
             cases hv
             refine ⟨_, .str (by simpa using hm), ?_⟩
             have : ¬ (((s1.size + s2.size : Nat) : Int) > IntKind.i64.max):=by
               have h9 : IntKind.i64.max = 9223372036854775807:=rfl
               have h10 : maxLen = 9223372036854775807:=rfl
               rw [h9];omega
             simp only [Op.stringOp]
             rw [if_neg this];rfl
           · cases hv)
    · rename_i b1 b2
      cases hx;cases hy
      have hg : (eqGuard op T x y (.bool b1) (.bool b2)).run P w = .ok () w:=by
        unfold eqGuard;split <;> rfl
      simp only [Sem.run_bind, hg, Result.andThen_ok]
      simp only at hv
      split at hv
      · rename_i hk;obtain rfl:=tkOf_bool hk;cases hv;exact ⟨_, .bool, by simp [binOp_eql_bool, run_equal_bool h2]⟩
      · rename_i hk;obtain rfl:=tkOf_bool hk;cases hv;exact ⟨_, .bool, by simp [binOp_neq_bool, run_equal_bool h2]⟩
      · cases hv
    · cases hx; cases hy
      have hg : (eqGuard op T x y (.slice none 0 0) (.slice none 0 0)).run P w = .ok () w:=by
        unfold eqGuard;split <;> rfl
      simp only [Sem.run_bind, hg, Result.andThen_ok]
      simp only at hv
      split at hv
      · rename_i hk;obtain ⟨rfl, _⟩:=tkOf_slice hk;cases hv;exact ⟨_, .bool, by simp [binOp_eql_sl, run_equal_nil h2, run_equal_nil' h2]⟩
      · rename_i hk;obtain ⟨rfl, _⟩:=tkOf_slice hk;cases hv;exact ⟨_, .bool, by simp [binOp_neq_sl, run_equal_nil h2, run_equal_nil' h2]⟩
      · cases hv
    · rename_i u us
      cases hx with
      | list hb hlen hcap hw hsz hr=>
      cases hy
      rename_i b o' cs ty fr esz cap
      have hg : (eqGuard op T x y (.slice (some ⟨b, o', none⟩) (u :: us).length cap) (.slice none 0 0)).run P w = .ok () w:=by
        unfold eqGuard;split <;> rfl
      simp only [Sem.run_bind, hg, Result.andThen_ok]
      simp only at hv
      split at hv
      · rename_i hk;obtain ⟨rfl, _⟩:=tkOf_slice hk;cases hv;exact ⟨_, .bool, by simp [binOp_eql_sl, run_equal_nil h2, run_equal_nil' h2]⟩
      · rename_i hk;obtain ⟨rfl, _⟩:=tkOf_slice hk;cases hv;exact ⟨_, .bool, by simp [binOp_neq_sl, run_equal_nil h2, run_equal_nil' h2]⟩
      · cases hv
    · rename_i i off n
      cases hx with
      | sl hσ hlen hcap ha=>
      cases hy
      rename_i l a cap
      obtain ⟨rfl, _⟩:=ha (by omega)
      have hg : (eqGuard op T x y (.slice (some ⟨l.b, l.o + off * l.esz, none⟩) (n + 1) cap) (.slice none 0 0)).run P w = .ok () w:=by
        unfold eqGuard;split <;> rfl
      simp only [Sem.run_bind, hg, Result.andThen_ok]
      simp only at hv
      split at hv
      · rename_i hk;obtain ⟨rfl, _⟩:=tkOf_slice hk;cases hv;exact ⟨_, .bool, by simp [binOp_eql_sl, run_equal_nil h2, run_equal_nil' h2]⟩
      · rename_i hk;obtain ⟨rfl, _⟩:=tkOf_slice hk;cases hv;exact ⟨_, .bool, by simp [binOp_neq_sl, run_equal_nil h2, run_equal_nil' h2]⟩
      · cases hv
    · rename_i xs ys
      simp only at hv
      cases hx with
      | agg hsx hrx=>
      cases hy with
      | agg hsy hry=>
      rename_i xa ya
      have key : ∀ l, eqsOf P T = some l → ∀ t, plainEqAt l xs ys = some t → (eqGuard op T x y (.agg xa) (.agg ya)).run P w = .ok () w ∧ (Op.equalIn 10000 T (.agg xa) (.agg ya)).run P w = .ok t w:=by
        intro l hl t ht
        unfold eqsOf at hl
        split at hl
        · rename_i fs hfs
          split at hl
          · rename_i hc
            cases hl
            have hfo : P.fieldsOf T = fs:=by unfold Program.fieldsOf;rw [hfs]
            refine ⟨run_eqGuard_agg w op T x y xa ya hc.1, ?_⟩
            rw [run_equalIn_struct w 9999 T xa ya (by rw [hfo];exact hfs) hc.2.1, hfo]
            exact run_fields 9998 ⟨hsx, hrx⟩ ⟨hsy, hry⟩ _ t hc.2.2 ht
          · cases hl
        · rename_i n e hfs
          split at hl
          · rename_i hc
            cases hl
            obtain ⟨ie, hie⟩:=Option.isSome_iff_exists.1 hc.2.1
            refine ⟨run_eqGuard_agg w op T x y xa ya hc.1, ?_⟩
            rw [run_equalIn_array w 9999 xa ya hfs hie]
            exact run_items 9998 ⟨hsx, hrx⟩ ⟨hsy, hry⟩ _ t ht
          · cases hl
        · cases hl
      split at hv
      · rename_i l hl
        obtain ⟨t, ht, rfl⟩:=Option.map_eq_some_iff.1 hv
        obtain ⟨k1, k2⟩:=key l hl t ht
        refine ⟨.bool t, .bool, ?_⟩
        simp only [Sem.run_bind, k1, Result.andThen_ok, run_eql_struct, k2]
      · rename_i l hl
        obtain ⟨t, ht, rfl⟩:=Option.map_eq_some_iff.1 hv
        obtain ⟨k1, k2⟩:=key l hl t ht
        refine ⟨.bool (!t), .bool, ?_⟩
        simp only [Sem.run_bind, k1, Result.andThen_ok, run_neq_struct, k2]
      · cases hv
    · cases hv
theorem ok_unOp {op : UnOp} {T : TypeId} {x : Operand} {b : Bool} (ho : o.op = .unOp op T x) (hop : op = .not) (hx : evO e x = .bool b) (h : k (.bool !b) s) : ReadOK P N o e s k:=
 fun C pub σ a w hs he=>by
  subst hop
  have hr:=evO_rel he x
  rw [hx] at hr
  generalize hv : a.eval x = cv at hr
  cases hr
  exact ⟨_,_,h,.bool,by simp [execOp,ho,hv,Op.unary]⟩
theorem ok_neg {T : TypeId} {x : Operand} {kd : IntKind} {n : Int} (ho : o.op = .unOp .neg T x) (hx : evO e x = .int kd n) (h : k (.int kd (kd.wrap (0 - n))) s) : ReadOK P N o e s k:=
 fun C pub σ a w hs he=>by
  have hr:=evO_rel he x
  rw [hx] at hr
  generalize hv : a.eval x = cv at hr
  cases hr
  exact ⟨_,_,h,.int,by simp [execOp,ho,hv,Op.unary,Op.intArith]⟩
theorem ok_convInt {T T' : TypeId} {x : Operand} {kd kd' : IntKind} {n : Int} {t t' : TI} (ho : o.op = .convert T T' x) (ht : tinfo P T = some t) (ht' : tinfo P T' = some t') (hk : t'.kind = .int kd') (hx : evO e x = .int kd n) (h : k (.int kd' (kd'.wrap n)) s) : ReadOK P N o e s k:=
 fun C pub σ a w hs he=>by
  obtain ⟨i,d,h1,h2,rfl⟩:=tinfo_some ht
  obtain ⟨i',d',h1',h2',rfl⟩:=tinfo_some ht'
  have hr:=evO_rel he x
  rw [hx] at hr
  generalize hv : a.eval x = cv at hr
  cases hr
  refine ⟨_,_,h,.int,?_⟩
  obtain rfl:=tkOf_int hk
  simp [execOp,ho,hv,convert,run_underlying' h2,run_underlying' h2',Conv.intToInt]
def convP : TK → Int → Option PV
 | .int kd',n=>some (.int kd' (kd'.wrap n))
 | .string,n=>some (.str (Utf8.encode n))
 | _,_=>none
theorem enc_size (n : Int) : (Utf8.encode n).size ≤ maxLen:=by
 have h : (Utf8.encode n).size ≤ 4:=by
  unfold Utf8.encode
  dsimp only
  generalize (if Utf8.valid n = true then n.toNat else Utf8.runeError) = c
  by_cases h1 : c < 128
  ·rw [if_pos h1];exact (show 1 ≤ 4 from Nat.le_of_ble_eq_true rfl)
  rw [if_neg h1]
  by_cases h2 : c < 2048
  ·rw [if_pos h2];exact (show 2 ≤ 4 from Nat.le_of_ble_eq_true rfl)
  rw [if_neg h2]
  by_cases h3 : c < 65536
  ·rw [if_pos h3];exact (show 3 ≤ 4 from Nat.le_of_ble_eq_true rfl)
  rw [if_neg h3]
  exact (show 4 ≤ 4 from Nat.le_refl _)
 exact Nat.le_trans h (show 4 ≤ maxLen from Nat.le_of_ble_eq_true rfl)
theorem ok_convStr {T T' : TypeId} {x : Operand} {kd : IntKind} {n : Int} {t t' : TI} (ho : o.op = .convert T T' x) (ht : tinfo P T = some t) (ht' : tinfo P T' = some t') (hk : t'.kind = .string) (hx : evO e x = .int kd n) (h : k (.str (Utf8.encode n)) s) : ReadOK P N o e s k:=
 fun C pub σ a w hs he=>by
  obtain ⟨i,d,h1,h2,rfl⟩:=tinfo_some ht
  obtain ⟨i',d',h1',h2',rfl⟩:=tinfo_some ht'
  have hr:=evO_rel he x
  rw [hx] at hr
  generalize hv : a.eval x = cv at hr
  cases hr
  refine ⟨_,_,h,.str (enc_size n),?_⟩
  obtain rfl:=tkOf_string hk
  simp [execOp,ho,hv,convert,run_underlying' h2,run_underlying' h2',Conv.intToString]
theorem ok_conv {T T' : TypeId} {x : Operand} {kd : IntKind} {n : Int} {v : PV} {t t' : TI} (ho : o.op = .convert T T' x) (ht : tinfo P T = some t) (ht' : tinfo P T' = some t') (hc : convP t'.kind n = some v) (hx : evO e x = .int kd n) (h : k v s) : ReadOK P N o e s k:=by
 unfold convP at hc
 split at hc
 ·rename_i hk;cases hc;exact ok_convInt ho ht ht' hk hx h
 ·rename_i hk;cases hc;exact ok_convStr ho ht ht' hk hx h
 ·cases hc
theorem ok_extract {x : Operand} {n : Nat} {vs : List PV} {v : PV} (ho : o.op = .extract x n) (hx : evO e x = .tuple vs) (hn : vs[n]? = some v) (h : k v s) : ReadOK P N o e s k:=
 fun C pub σ a w hs he=>by
  have hr:=evO_rel he x
  rw [hx] at hr
  generalize hv : a.eval x = cv at hr
  cases hr with
  | tuple hsz hrel=>
   rename_i arr
   have hlt : n < vs.length:=by rcases Nat.lt_or_ge n vs.length with h | h;exact h;simp [List.getElem?_eq_none h] at hn
   have hc : arr[n]? = some arr[n]:=Array.getElem?_eq_getElem (by omega)
   exact ⟨_,_,h,hrel n v _ hn hc,by simp [execOp,ho,hv,Instr.extract,hc]⟩
theorem ok_fieldAddr {T : TypeId} {x : Operand} {f : Nat} {ti : TI} (ho : o.op = .fieldAddr T x f) (ht : tinfo P T = some ti) (h : WFieldAddr ti (evO e x) f fun v=>k v s) : ReadOK P N o e s k:=
 fun C pub σ a w hs he=>by
  obtain ⟨i,d,h1,h2,rfl⟩:=tinfo_some ht
  obtain ⟨fs,off,t,sz,ag,hk,hf,h⟩:=h
  have hr:=evO_rel he x
  obtain ⟨fields,rfl,rfl,hall⟩:=tkOf_struct hk
  rw [List.getElem?_map,Option.map_eq_some_iff] at hf
  obtain ⟨fl,hfl,he'⟩:=hf
  simp only [Prod.mk.injEq] at he'
  obtain ⟨rfl,rfl,rfl,rfl⟩:=he'
  have hfl' : fields[f]? = some fl:=by rw [← Array.getElem?_toList];exact hfl
  obtain ⟨fi,fd,hfi,hfne,hfd⟩:=hall f fl hfl'
  split at h
  ·rename_i j r o' heq
   rw [heq] at hr
   generalize hv : a.eval x = cv at hr
   cases hr with
   | ptr hσ=>
    rename_i l
    refine ⟨_,.pointer (some ⟨l.b,l.o + r * l.esz + (o' + fl.offset),none⟩),h,.ptr hσ,?_⟩
    simp [execOp,ho,hv,Instr.fieldAt,run_underlying' h2,hfl',Instr.sureAddr,fieldPlace,run_sizeOf' hfi,hfne,Addr.add_at,Nat.add_assoc]
  ·rename_i cells heq
   rw [heq] at hr
   generalize hv : a.eval x = cv at hr
   cases hr with
   | iptr hb hsz hrel=>
    rename_i b o' cs ty fr
    refine ⟨_,.pointer (some ⟨b,o' + fl.offset,none⟩),h.2,.iptr hb (by have:=h.1;simp;omega) ?_,?_⟩
    ·intro j v c hj hc
     rw [List.getElem?_drop] at hj
     exact hrel (fl.offset + j) v c hj (by rw [← Nat.add_assoc];exact hc)
    ·simp [execOp,ho,hv,Instr.fieldAt,run_underlying' h2,hfl',Instr.sureAddr,fieldPlace,run_sizeOf' hfi,hfne,Addr.add_at]
  ·exact h.elim
end
end Go.Pv
