import Derived.Test.YtbimioonhfhflaaDPvOps
import Derived.Laws.Append
set_option linter.unusedVariables false
set_option linter.unusedSimpArgs false
namespace Go.Pv
open Go Go.RowKit
section
variable {P : Program} {N : FrN} {o : Oper} {e : Env} {s : Store} {k : PV → Store → Prop}
theorem lt_of_getElem? {α : Type} {l : List α} {n : Nat} {x : α} (h : l[n]? = some x) : n < l.length:=by
 rcases Nat.lt_or_ge n l.length with h' | h'
 ·exact h'
 ·simp [List.getElem?_eq_none h'] at h
theorem ok_indexAddr {T : TypeId} {x y : Operand} {ti : TI} (ho : o.op = .indexAddr T x y) (ht : tinfo P T = some ti) (h : WIndexAddr ti s (evO e x) (evO e y) fun v=>k v s) : ReadOK P N o e s k:=
 fun C pub σ a w hs he=>by
  obtain ⟨i,d,h1,h2,rfl⟩:=tinfo_some ht
  obtain ⟨kd,ix,hix,h0,h⟩:=h
  have hr:=evO_rel he x
  have hry:=evO_rel he y
  rw [hix] at hry
  generalize hvy : a.eval y = cy at hry
  cases hry
  split at h
  ·rename_i n el esz ag j r off hk heq
   obtain ⟨rfl,ei,hei,rfl,_⟩:=tkOf_array hk
   rw [heq] at hr
   generalize hv : a.eval x = cv at hr
   cases hr with
   | ptr hσ=>
    rename_i l
    refine ⟨_,.pointer (some ⟨l.b,l.o + r * l.esz + (off + ix.toNat * ei.size),none⟩),h.2,.ptr hσ,?_⟩
    simp [execOp,ho,hv,hvy,Instr.indexAt,asIntOf,run_underlying' h2,Instr.sureAddr,run_sizeOf' hei,h0,h.1,Addr.add_at,Nat.add_assoc]
  ·rename_i n el esz ag cells hk heq
   obtain ⟨rfl,ei,hei,rfl,_⟩:=tkOf_array hk
   rw [heq] at hr
   generalize hv : a.eval x = cv at hr
   cases hr with
   | iptr hb hsz hrel=>
    rename_i b o' cs ty fr
    refine ⟨_,.pointer (some ⟨b,o' + ix.toNat * ei.size,none⟩),h.2.2,.iptr hb (by have:=h.2.1;simp;omega) ?_,?_⟩
    ·intro j v c hj hc
     rw [List.getElem?_drop] at hj
     exact hrel _ v c hj (by rw [← Nat.add_assoc];exact hc)
    ·simp [execOp,ho,hv,hvy,Instr.indexAt,asIntOf,run_underlying' h2,Instr.sureAddr,run_sizeOf' hei,h0,h.1,Addr.add_at]
  ·rename_i el esz by' ag z xs hk heq
   obtain ⟨rfl,ei,hei,rfl,_⟩:=tkOf_slice hk
   rw [heq] at hr
   obtain ⟨row,hrow,hrl,hkk⟩:=h
   have hlt:=lt_of_getElem? hrow
   generalize hv : a.eval x = cv at hr
   cases hr with
   | list0=>simp at hlt
   | list hb hlen hcap hw hsz hrel=>
    rename_i b o' cs ty fr esz' cap
    have hw':=hw _ _ hrow
    obtain rfl : esz' = ei.size:=by omega
    have hf:=row_fits (esz:=ei.size) hlt (Nat.le_refl _)
    refine ⟨_,.pointer (some ⟨b,o' + ix.toNat * ei.size,none⟩),hkk,.iptr hb (by omega) ?_,?_⟩
    ·intro j v c hj hc
     exact hrel _ _ _ v c hrow hj hc
    ·have hlt' : ix < (xs.length : Int) := by omega
     simp [execOp,ho,hv,hvy,Instr.indexAt,asIntOf,run_underlying' h2,Instr.sureAddr,run_sizeOf' hei,h0,hlt',Addr.add_at]
  ·rename_i el esz by' ag z j off len hk heq
   obtain ⟨rfl,ei,hei,rfl,_⟩:=tkOf_slice hk
   rw [heq] at hr
   generalize hv : a.eval x = cv at hr
   cases hr with
   | sl hσ hlen hcap ha=>
    rename_i l a' cap
    obtain ⟨hlt,rows,hi,hkk⟩:=h
    obtain ⟨l',hl1,hl2,_⟩:=hs.obj j _ hi
    rw [hσ] at hl1;cases hl1
    obtain ⟨rfl,_⟩:=ha (by omega)
    refine ⟨_,.pointer (some ⟨l.b,l.o + (off + ix.toNat) * l.esz + 0,none⟩),hkk,.ptr hσ,?_⟩
    simp [execOp,ho,hv,hvy,Instr.indexAt,asIntOf,run_underlying' h2,Instr.sureAddr,run_sizeOf' hei,h0,hlt,Addr.add_at,hl2,Nat.add_mul,Nat.add_assoc]
  ·exact h.elim
theorem run_part {w : World} {T : TypeId} {d : TypeDesc} {i : TypeInfo} (h1 : P.info? T = some i) (h2 : P.underlying T = some d) {cs : Array Value} {off : Nat} (hc : aggOf P T = false → off < cs.size) :
  (part T cs off).run P w = .ok (if aggOf P T then .agg (cs.extract off (off + i.size)) else cs.getD off undef) w:=by
 simp only [part,Sem.run_bind,run_isAgg' h2,Result.andThen_ok]
 by_cases ha : aggOf P T = true
 ·simp only [ha,if_true,Sem.run_bind,run_sizeOf' h1,Result.andThen_ok,Sem.run_pure]
 ·have ha' : aggOf P T = false := by simpa using ha
  have hx:=hc ha'
  simp [ha',Array.getElem?_eq_getElem hx,Array.getD,hx]
theorem readP_agg {ti : TI} {pub : PHeap} {σ : Sig} {row : List PV} {arr : Array Value} {off : Nat} {K : PV → Prop} (h : readP ti row off K) (hsz : arr.size = row.length)
  (hr : ∀ (j : Nat) (v : PV) (c : Value),row[j]? = some v → arr[j]? = some c → Rel pub σ v c) :
  (ti.agg = false → off < arr.size) ∧ ∃ v,K v ∧ Rel pub σ v (if ti.agg then .agg (arr.extract off (off + ti.size)) else arr.getD off undef):=by
 unfold readP at h
 by_cases ha : ti.agg = true
 ·rw [if_pos ha] at h ⊢
  refine ⟨fun h'=>(by rw [ha] at h';cases h'),PV.agg ((row.drop off).take ti.size),h.2,?_⟩
  refine Rel.agg (by simp;omega) fun j v c hv hc=>?_
  rw [List.getElem?_take] at hv
  split at hv
  ·rename_i hj
   rw [List.getElem?_drop] at hv
   refine hr (off + j) v c hv ?_
   rw [Array.getElem?_extract] at hc
   split at hc
   ·exact hc
   ·cases hc
  ·cases hv
 ·rw [if_neg ha] at h ⊢
  obtain ⟨v,hv,hk⟩:=h
  have hlt:=lt_of_getElem? hv
  have h2 : arr[off]? = some arr[off]:=Array.getElem?_eq_getElem (by omega)
  have h3 : arr.getD off undef = arr[off]:=by simp [Array.getD,show off < arr.size by omega]
  exact ⟨fun _=>by omega,v,hk,by rw [h3];exact hr off v _ hv h2⟩
theorem ok_field {T : TypeId} {x : Operand} {f : Nat} {ti : TI} (ho : o.op = .field T x f) (ht : tinfo P T = some ti) (h : WField ti (evO e x) f fun v=>k v s) : ReadOK P N o e s k:=
 fun C pub σ a w hs he=>by
  obtain ⟨i,d,h1,h2,rfl⟩:=tinfo_some ht
  obtain ⟨fs,off,t,sz,ag,hk,hf,h⟩:=h
  have hr:=evO_rel he x
  obtain ⟨fields,rfl,rfl,hall⟩:=tkOf_struct hk
  rw [List.getElem?_map,Option.map_eq_some_iff] at hf
  obtain ⟨fl,hfl,he'⟩:=hf
  simp only [Prod.mk.injEq] at he'
  obtain ⟨rfl,rfl,rfl,rfl⟩:=he'
  have hfl' : fields[f]? = some fl:=by rw [← Array.getElem?_toList];exact hfl
  obtain ⟨fi,fd,hfi,hfne,hfd⟩:=hall f fl hfl'
  split at h
  ·rename_i cells heq
   rw [heq] at hr
   generalize hv : a.eval x = cv at hr
   cases hr with
   | agg hsz hrel=>
    rename_i arr
    obtain ⟨hlt,v,hk',hrv⟩:=readP_agg h hsz hrel
    simp only [hfi,Option.map_some,Option.getD_some] at hrv hlt
    exact ⟨v,_,hk',hrv,by simp [execOp,ho,hv,Instr.field,run_underlying' h2,hfl',asAgg,run_part hfi hfd hlt]⟩
  ·exact h.elim
def WIndex (P : Program) (ti : TI) (x ix : PV) (k : PV → Prop) : Prop:=
 ∃ kd i,ix = .int kd i ∧ 0 ≤ i ∧ match ti.kind,x with
 | .string,.str t=>∃ h : i.toNat < t.size,k (.int .u8 (t[i.toNat].toNat))
 | .array n el esz ag,.agg cells=>(∃ ei,tinfo P el = some ei) ∧ i < n ∧ readP { size:=esz,agg:=ag,zero:=none,kind:=.other } cells (i.toNat * esz) k
 | _,_=>False
theorem ok_index {T : TypeId} {x y : Operand} {ti : TI} (ho : o.op = .index T x y) (ht : tinfo P T = some ti) (h : WIndex P ti (evO e x) (evO e y) fun v=>k v s) : ReadOK P N o e s k:=
 fun C pub σ a w hs he=>by
  obtain ⟨i,d,h1,h2,rfl⟩:=tinfo_some ht
  obtain ⟨kd,ix,hix,h0,h⟩:=h
  have hr:=evO_rel he x
  have hry:=evO_rel he y
  rw [hix] at hry
  generalize hvy : a.eval y = cy at hry
  cases hry
  split at h
  ·rename_i t hk heq
   obtain rfl:=tkOf_string hk
   rw [heq] at hr
   generalize hv : a.eval x = cv at hr
   cases hr
   obtain ⟨hlt,hkk⟩:=h
   exact ⟨_,_,hkk,.int,by simp [execOp,ho,hv,hvy,Instr.index,asIntOf,run_underlying' h2,h0,getElem?_pos t ix.toNat hlt]⟩
  ·rename_i n el esz ag cells hk heq
   obtain ⟨rfl,ei,hei,rfl,rfl⟩:=tkOf_array hk
   rw [heq] at hr
   generalize hv : a.eval x = cv at hr
   cases hr with
   | agg hsz hrel=>
    rename_i arr
    obtain ⟨⟨eti,het⟩,hin,h⟩:=h
    obtain ⟨hlt,v,hk',hrv⟩:=readP_agg h hsz hrel
    obtain ⟨_,ed,_,hed,_⟩:=tinfo_some het
    exact ⟨v,_,hk',hrv,by simp [execOp,ho,hv,hvy,Instr.index,asIntOf,run_underlying' h2,h0,hin,run_sizeOf' hei,run_part hei hed hlt]⟩
  ·exact h.elim
theorem ok_len {x : Operand} {T : TypeId} {ti : TI} {n : Nat} {ty : TypeId} (ho : o.op = .call { callee := .builtin .len,args := #[x],argTypes := #[T] }) (ht : tinfo P T = some ti) (hk : lenKind ti (evO e x) = true)
  (hn : lenP (evO e x) = some n) (h : n ≤ maxLen → k (.int .i64 n) s) : ReadOK P N o e s k:=
 fun C pub σ a w hs he=>by
  obtain ⟨i,d,h1,h2,rfl⟩:=tinfo_some ht
  have hr:=evO_rel he x
  generalize evO e x = px at hr hn hk
  generalize hv : a.eval x = cv at hr
  have hrun : (∃ el,d = .slice el) ∨ d = .string:=by
   unfold lenKind at hk
   cases px <;> simp only at hk <;> first | (cases hk;done) | (split at hk <;> first | (cases hk;done) | skip)
   ·rename_i h;exact .inr (tkOf_string h)
   all_goals (rename_i h;exact .inl ⟨_,(tkOf_slice h).1⟩)
  have key : ∀ (c : Value) (m : Nat),((∃ el,d = .slice el) → ∃ b cap,c = .slice b m cap) → (d = .string → ∃ t : ByteArray,c = .string t ∧ t.size = m) → a.eval x = c → (execOp a.eval o).run P w = .ok (.value (.int .i64 m)) w:=by
   intro c m hsl hst hc
   rcases hrun with ⟨el,rfl⟩ | rfl
   ·obtain ⟨b,cap,rfl⟩ := hsl ⟨el,rfl⟩
    simp [execOp,ho,resolve,invoke,builtin,Builtin.len_,hc,run_underlying' h2,goInt]
   ·obtain ⟨t,rfl,rfl⟩ := hst rfl
    simp [execOp,ho,resolve,invoke,builtin,Builtin.len_,hc,run_underlying' h2,goInt]
  have hstr : d = .string → ∀ t,px ≠ .list t:=by
   rintro rfl t rfl;simp [lenKind,tkOf] at hk
  have hstr2 : d = .string → ∀ a b c,px ≠ .sl a b c:=by
   rintro rfl a b c rfl;simp [lenKind,tkOf] at hk
  have hstr3 : d = .string → px ≠ .nilsl:=by
   rintro rfl rfl;simp [lenKind,tkOf] at hk
  have hsl1 : (∃ el,d = .slice el) → ∀ t,px ≠ .str t:=by
   rintro ⟨el,rfl⟩ t rfl;simp only [lenKind] at hk;split at hk
   ·rename_i heq;cases tkOf_string heq
   ·cases hk
  cases hr <;> simp only [lenP,Option.some.injEq] at hn <;> first | (cases hn;done) | subst hn
  ·rename_i t ht'
   exact ⟨_,_,h ht',.int,key _ _ (fun hh=>absurd rfl (hsl1 hh _)) (fun _=>⟨_,rfl,rfl⟩) hv⟩
  ·exact ⟨_,_,h (by simp [maxLen]),.int,key _ _ (fun _=>⟨_,_,rfl⟩) (fun hh=>absurd rfl (hstr3 hh)) hv⟩
  ·exact ⟨_,_,h (by simp [maxLen]),.int,key _ _ (fun _=>⟨_,_,rfl⟩) (fun hh=>absurd rfl (hstr hh _)) hv⟩
  ·rename_i hlen hcap _ _ _
   exact ⟨_,_,h (by omega),.int,key _ _ (fun _=>⟨_,_,rfl⟩) (fun hh=>absurd rfl (hstr hh _)) hv⟩
  ·exact ⟨_,_,h (by omega),.int,key _ _ (fun _=>⟨_,_,rfl⟩) (fun hh=>absurd rfl (hstr2 hh _ _ _)) hv⟩
theorem ok_min {x y : Operand} {Ts : Array TypeId} {kd : IntKind} {m n : Int} (ho : o.op = .call { callee := .builtin .min,args := #[x,y],argTypes := Ts }) (hx : evO e x = .int kd m) (hy : evO e y = .int kd n)
  (h : k (.int kd (if n < m then n else m)) s) : ReadOK P N o e s k:=
 fun C pub σ a w hs he=>by
  have hr:=evO_rel he x
  have hry:=evO_rel he y
  rw [hx] at hr;rw [hy] at hry
  generalize hv : a.eval x = cv at hr
  generalize hvy : a.eval y = cy at hry
  cases hr;cases hry
  exact ⟨_,_,h,.int,by simp [execOp,ho,resolve,invoke,builtin,Builtin.min_,Builtin.min2,hv,hvy,List.foldlM]⟩
theorem ok_max {x y : Operand} {Ts : Array TypeId} {kd : IntKind} {m n : Int} (ho : o.op = .call { callee := .builtin .max,args := #[x,y],argTypes := Ts }) (hx : evO e x = .int kd m) (hy : evO e y = .int kd n)
  (h : k (.int kd (if n > m then n else m)) s) : ReadOK P N o e s k:=
 fun C pub σ a w hs he=>by
  have hr:=evO_rel he x
  have hry:=evO_rel he y
  rw [hx] at hr;rw [hy] at hry
  generalize hv : a.eval x = cv at hr
  generalize hvy : a.eval y = cy at hry
  cases hr;cases hry
  exact ⟨_,_,h,.int,by simp [execOp,ho,resolve,invoke,builtin,Builtin.max_,Builtin.max2,hv,hvy,List.foldlM]⟩
theorem map_rel {pub : PHeap} {σ : Sig} {a : Act} (he : ER pub σ N e a) (xs : Array Operand) : (xs.map a.eval).size = (xs.toList.map (evO e)).length ∧
  ∀ (j : Nat) (v : PV) (c : Value),(xs.toList.map (evO e))[j]? = some v → (xs.map a.eval)[j]? = some c → Rel pub σ v c:=by
 refine ⟨by simp,fun j v c hv hc=>?_⟩
 simp only [List.getElem?_map,Array.getElem?_toList,Array.getElem?_map,Option.map_eq_some_iff] at hv hc
 obtain ⟨u,hu,rfl⟩:=hv
 obtain ⟨u',hu',rfl⟩:=hc
 rw [hu] at hu';cases hu'
 exact evO_rel he u
theorem ok_makeFunc {f : Fn} {xs ys : Array Operand} (ho : o.op = .makeFunc f xs ys) (h : k (.fn f (xs.toList.map (evO e)) (ys.toList.map (evO e))) s) : ReadOK P N o e s k:=
 fun C pub σ a w hs he=>
  ⟨_,.func f (xs.map a.eval) (ys.map a.eval),h,.fn (map_rel he xs).1 (map_rel he xs).2 (map_rel he ys).1 (map_rel he ys).2,by simp [execOp,ho,Instr.makeFunc]⟩
def Enters (P : Program) (f : FuncId) : Prop:=∀ (args : Array Value) (w : World),(callFunc f args).run P w = .ok (.enter f args) w
theorem RelA.append {pub : PHeap} {σ : Sig} {xs ys : List PV} {xa ya : Array Value} (h : RelA pub σ xs xa) (g : RelA pub σ ys ya) : RelA pub σ (xs ++ ys) (xa ++ ya):=by
 refine ⟨by simp [h.1,g.1],fun j v c hv hc=>?_⟩
 rw [List.getElem?_append] at hv
 rw [Array.getElem?_append] at hc
 rw [h.1] at hc
 split at hv
 ·rename_i hj;rw [if_pos hj] at hc;exact h.2 j v c hv hc
 ·rename_i hj;rw [if_neg hj] at hc;exact g.2 _ v c hv hc
theorem ok_call {f : Operand} {args : Array Operand} {Ts : Array TypeId} {fid : FuncId} {xs ys : List PV} {v : PV} {s' : Store} (ho : o.op = .call { callee := .value f,args := args,argTypes := Ts })
  (hf : evO e f = .fn (.func fid) xs ys) (hen : Enters P fid) (hc : CallOK P fid (xs ++ args.toList.map (evO e) ++ ys) s v s') (h : k v s') : OpOK P N o e s k:=by
 intro C pub σ a w next Q hs he hn
 have hr:=evO_rel he f
 rw [hf] at hr
 generalize hv : a.eval f = cv at hr
 cases hr with
 | fn hsx hrx hsy hry=>
  rename_i xa ya
  have hA : RelA pub σ (xs ++ args.toList.map (evO e) ++ ys) (xa ++ args.map a.eval ++ ya):=RelA.append (RelA.append ⟨hsx,hrx⟩ (map_rel he args)) ⟨hsy,hry⟩
  have hcall:=hc pub σ w _ hs.toBase hA
  have hrun : (execOp a.eval o).run P w = .ok (.enter fid (xa ++ args.map a.eval ++ ya)) w:=by
   simp only [execOp,ho,resolve,hv,Deferred.ofValue,pure_bind,invoke]
   exact hen _ w
  unfold Oper.wp
  rw [hrun]
  refine Calls.mono hcall ?_
  rintro en w' ⟨cv,pub',σ',rfl,hs',hrel⟩
  exact hn v s' cv pub' σ' w' h (hs.trans hs') (he.mono hs'.ple hs'.sle) hrel
end
end Go.Pv
namespace Go.Pv
open Go Go.RowKit
set_option linter.unusedVariables false
set_option linter.unusedSimpArgs false
section
variable {P : Program} {N : FrN} {o : Oper} {e : Env} {s : Store} {k : PV → Store → Prop}
theorem new_rows {C : Ctx} {pub : PHeap} {σ : Sig} {w : World} (hs : SR C pub σ s w) (cs : Array Value) (ty : TypeId) (esz n : Nat) (rows : List (List PV)) (hn : rows.length ≤ n) (hsz : n * esz ≤ cs.size) (hr : RowsIn (Rel pub σ) rows cs 0 esz) :
  SR C pub (σ.add s.length ⟨w.heap.size,0,esz,n⟩) (s ++ [.rows esz rows]) { w with heap:=w.heap.push (.cells cs ty) }:=by
 refine hs.push _ _ ⟨w.heap.size,0,esz,n⟩ rfl ?_
 refine ⟨_,Sig.add_same _ _ _,rfl,hn,fun _=>⟨hs.toBase.pub_size (Nat.le_refl _),cs,ty,by simp,by simpa using hsz,hr.up (hs.toBase.le_add _)⟩⟩
theorem sl_new {pub : PHeap} {σ : Sig} {i b esz n len cap : Nat} (hc : len ≤ cap) (hn : cap ≤ n) (hm : cap ≤ maxLen) : Rel pub (σ.add i ⟨b,0,esz,n⟩) (.sl i 0 len) (.slice (some ⟨b,0,none⟩) len cap):=
 .sl (Sig.add_same _ _ _) hc hm fun _=>⟨by simp,by simpa using hn⟩
theorem wrap_small {n : Int} (h0 : 0 ≤ n) (h1 : n ≤ 9223372036854775807) : IntKind.i64.wrap n = n:=by
 have h2 : n % (2 ^ 64 : Int) = n:=Int.emod_eq_of_lt h0 (by omega)
 unfold IntKind.wrap
 simp only [IntKind.bits,IntKind.signed,h2,Bool.true_and]
 rw [if_neg (by simp;omega)]
theorem flat_zero (z : Array Value) (n i : Nat) (hi : i < n * z.size) : ((Array.range (n * z.size)).map fun j=>z[j % z.size]!)[i]? = some (z[i % z.size]!):=by
 simp [hi]
theorem mod_place {r esz j : Nat} (hj : j < esz) : (r * esz + j) % esz = j:=by
 rw [Nat.mul_comm,Nat.mul_add_mod];exact Nat.mod_eq_of_lt hj
theorem zero_rows {pub : PHeap} {σ : Sig} {T : TypeId} {i : TypeInfo} {zv : Value} (h1 : P.info? T = some i) (hz : i.zero = some zv) {m n : Nat} (hmn : m ≤ n) {z : List PV} (hzz : zeroOf P T = some z) :
  RowsIn (Rel pub σ) (List.replicate m z) ((Array.range (n * zv.cells.size)).map fun j=>zv.cells[j % zv.cells.size]!) 0 zv.cells.size:=by
 have hz' : z = zv.cells.toList.map (ofConst 3):=by
  simp only [zeroOf,h1,Option.bind_some,hz,Option.map_some,Option.some.injEq] at hzz;exact hzz.symm
 refine ⟨fun r row hr=>?_,fun r row j v c hr hj hc=>?_⟩
 ·rw [List.getElem?_replicate] at hr
  split at hr
  ·cases hr;simp [hz']
  ·cases hr
 ·rw [List.getElem?_replicate] at hr
  split at hr
  ·rename_i hrm
   cases hr
   have hjl:=lt_of_getElem? hj
   rw [hz',List.length_map] at hjl
   have hjl' : j < zv.cells.size:=by simpa using hjl
   have hf:=row_fits (r:=r) (n:=n) (esz:=zv.cells.size) (len:=n) (by omega) (Nat.le_refl _)
   rw [flat_zero _ _ _ (by omega),Nat.zero_add,mod_place hjl'] at hc
   cases hc
   rw [hz',List.getElem?_map,Array.getElem?_toList,Array.getElem?_eq_getElem hjl',Option.map_some] at hj
   cases hj
   have : zv.cells[j]! = zv.cells[j]:=by simp [hjl']
   rw [this]
   exact ofConst_rel _ _ _ _
  ·cases hr
def WMake (ti : TI) (s : Store) (l c : PV) (k : PV → Store → Prop) : Prop:=
 ∃ e esz by' ag z kl kc m n,ti.kind = .slice e esz by' ag (some z) ∧ z.length = esz ∧ l = .int kl m ∧ c = .int kc n ∧ 0 ≤ m ∧ m ≤ n ∧ by' * n ≤ 281474976710656 ∧ n ≤ 9223372036854775807 ∧
  k (.sl s.length 0 m.toNat) (s ++ [.rows esz (List.replicate m.toNat z)])
theorem ok_make {T : TypeId} {x y : Operand} {ti : TI} (ho : o.op = .makeSlice T x y) (ht : tinfo P T = some ti) (h : WMake ti s (evO e x) (evO e y) k) : OpOK P N o e s k:=by
 intro C pub σ a w next Q hs he hnext
 obtain ⟨i,d,h1,h2,rfl⟩:=tinfo_some ht
 obtain ⟨el,esz,by',ag,z,kl,kc,m,n,hk,hzl,hx,hy,h0,hmn,hby,hmax,hkk⟩:=h
 obtain ⟨rfl,ei,hei,rfl,rfl,_,hz⟩:=tkOf_slice hk
 have hr:=evO_rel he x
 have hry:=evO_rel he y
 rw [hx] at hr;rw [hy] at hry
 generalize hv : a.eval x = cv at hr
 generalize hvy : a.eval y = cy at hry
 cases hr;cases hry
 obtain ⟨zv,hzv,hzz⟩ : ∃ zv,ei.zero = some zv ∧ z = zv.cells.toList.map (ofConst 3):=by
  simp only [zeroOf,hei,Option.bind_some,Option.map_eq_some_iff] at hz
  obtain ⟨zv,h3,h4⟩:=hz
  exact ⟨zv,h3,h4.symm⟩
 have hzs : zv.cells.size = ei.size:=by rw [← hzl,hzz];simp
 have w1:=wrap_small h0 (Int.le_trans hmn hmax)
 have w2:=wrap_small (Int.le_trans h0 hmn) hmax
 have hc1 : ¬ ((ei.bytes : Int) * n > 281474976710656):=by omega
 have hle:=hs.toBase.le_add ⟨w.heap.size,0,ei.size,n.toNat⟩
 have hrun : (execOp a.eval o).run P w = .ok (.value (.slice (some ⟨w.heap.size,0,none⟩) m.toNat n.toNat)) { w with heap:=w.heap.push (.cells ((Array.range (n.toNat * ei.size)).map fun j=>zv.cells[j % zv.cells.size]!) el) }:=by
  have hn0 : ¬ n < 0:=by omega
  have hm0 : ¬ m < 0:=by omega
  have hmn' : ¬ m > n:=by omega
  have er : ∀ f : Nat → Value,(Array.range 0).map f = #[]:=fun f=>Array.eq_empty_of_size_eq_zero (by simp)
  by_cases hz0 : n.toNat * ei.size = 0
  ·simp [execOp,ho,hv,hvy,Instr.makeSlice,run_underlying' h2,asInt,asIntOf,run_typeInfo' hei,w1,w2,hn0,hm0,hc1,hmn',run_sizeOf' hei,hz0,newRow,er]
  ·simp [execOp,ho,hv,hvy,Instr.makeSlice,run_underlying' h2,asInt,asIntOf,run_typeInfo' hei,w1,w2,hn0,hm0,hc1,hmn',run_sizeOf' hei,hz0,newRow,zeroValue,hzv]
 refine wp_value hrun (hnext _ _ _ pub _ _ hkk (new_rows hs _ el ei.size n.toNat _ (by simp;omega) (by simp) ?_) (he.mono PHeap.le.rfl' hle) (sl_new (by omega) (Nat.le_refl _) (by simp [maxLen];omega)))
 have:=zero_rows (pub:=pub) (σ:=σ) hei hzv (m:=m.toNat) (n:=n.toNat) (by omega) hz
 rw [hzs] at this
 rw [hzs];exact this
def boundP (v : Option PV) (d : Nat) : Option Int:=match v with
 | none=>some d
 | some (.int _ n)=>some n
 | _=>none
def WSlice (ti : TI) (s : Store) (x : PV) (lo hi : Option PV) (k : PV → Prop) : Prop:=
 ∃ l hh,boundP lo 0 = some l ∧ match ti.kind,x with
 | .string,.str t=>boundP hi t.size = some hh ∧ 0 ≤ l ∧ l ≤ hh ∧ hh ≤ t.size ∧ (t.size ≤ maxLen → k (.str (t.extract l.toNat hh.toNat)))
 | .slice _ esz _ _ _,.list xs=>boundP hi xs.length = some hh ∧ 0 ≤ l ∧ l ≤ hh ∧ hh ≤ xs.length ∧ (∀ row ∈ xs,row.length = esz) ∧ k (.list ((xs.take hh.toNat).drop l.toNat))
 | .slice _ esz _ _ _,.sl i off len=>boundP hi len = some hh ∧ 0 ≤ l ∧ l ≤ hh ∧ hh ≤ len ∧ (∃ rows,s[i]? = some (.rows esz rows)) ∧ k (.sl i (off + l.toNat) (hh.toNat - l.toNat))
 | .slice ..,.nilsl=>boundP hi 0 = some hh ∧ 0 ≤ l ∧ l ≤ hh ∧ hh ≤ 0 ∧ k .nilsl
 | .array n _ esz _,.ptr j r off=>boundP hi n = some hh ∧ 0 ≤ l ∧ l ≤ hh ∧ hh ≤ n ∧ l < n ∧ n ≤ maxLen ∧ off = 0 ∧ (∃ rows,s[j]? = some (.rows esz rows) ∧ r + n ≤ rows.length) ∧ k (.sl j (r + l.toNat) (hh.toNat - l.toNat))
 | _,_=>False
theorem bound_run {w : World} {pub : PHeap} {σ : Sig} {a : Act} (he : ER pub σ N e a) {lo : Option Operand} {d y : Nat} {l : Int} {code : BoundsCode} (h : boundP (lo.map (evO e)) d = some l) (h0 : 0 ≤ l) (h1 : l ≤ y) :
  (match lo.map a.eval with | some v=>Instr.sliceBound v y code | none=>pure d : Sem Nat).run P w = .ok l.toNat w:=by
 cases lo with
 | none=>simp [boundP] at h;subst h;simp
 | some x=>
  have hr:=evO_rel he x
  simp only [Option.map_some] at h ⊢
  cases hx : evO e x <;> simp only [hx,boundP] at h <;> first | (cases h;done) | skip
  rename_i kd n
  cases h
  rw [hx] at hr
  generalize hv : a.eval x = cv at hr
  cases hr
  simp [Instr.sliceBound,asIntOf,h0,h1]
theorem ok_slice {T : TypeId} {x : Operand} {lo hi : Option Operand} {ti : TI} (ho : o.op = .slice T x lo hi none) (ht : tinfo P T = some ti) (h : WSlice ti s (evO e x) (lo.map (evO e)) (hi.map (evO e)) fun v=>k v s) : ReadOK P N o e s k:=
 fun C pub σ a w hs he=>by
  obtain ⟨i,d,h1,h2,rfl⟩:=tinfo_some ht
  obtain ⟨l,hh,hlo,h⟩:=h
  have hr:=evO_rel he x
  have hrun : ∀ (isSlice : Bool) (len cap : Nat),boundP (hi.map (evO e)) len = some hh → 0 ≤ l → l ≤ hh → hh ≤ cap → (Instr.sliceBounds isSlice len cap (lo.map a.eval) (hi.map a.eval) none).run P w = .ok (l.toNat,hh.toNat,cap) w:=by
   intro isSlice len cap hb h0 hlh hc
   have e1:=bound_run (P:=P) (w:=w) he (code:=if isSlice then .sliceAcap else .sliceAlen) (y:=cap) hb (by omega) hc
   have e2:=bound_run (P:=P) (w:=w) he (code:=.sliceB) (y:=hh.toNat) hlo h0 (by omega)
   unfold Instr.sliceBounds
   cases lo <;> cases hi <;> simp_all
  split at h
  ·rename_i t hk heq
   obtain rfl:=tkOf_string hk
   obtain ⟨hb,h0,hlh,hle,hkk⟩:=h
   rw [heq] at hr
   generalize hv : a.eval x = cv at hr
   cases hr with
   | str hm=>
    refine ⟨_,_,hkk hm,.str ?_,by simp [execOp,ho,hv,Instr.sliceAt,Instr.slice,run_underlying' h2,hrun false t.size t.size hb h0 hlh hle]⟩
    simp [ByteArray.size_extract];omega
  ·rename_i el esz by' ag z xs hk heq
   obtain ⟨rfl,ei,hei,rfl,_⟩:=tkOf_slice hk
   obtain ⟨hb,h0,hlh,hle,hall,hkk⟩:=h
   rw [heq] at hr
   generalize hv : a.eval x = cv at hr
   cases hr with
   | list0 hc=>
    rename_i a' cap
    simp only [List.length_nil] at hle hb
    have h3 : hh.toNat = 0:=by omega
    have h4 : l.toNat = 0:=by omega
    refine ⟨_,.slice (if cap = 0 then a' else a'.map (·.add 0)) 0 cap,hkk,by simpa using Rel.list0 hc,?_⟩
    simp [execOp,ho,hv,Instr.sliceAt,Instr.slice,run_underlying' h2,hrun true 0 cap hb h0 hlh (by omega),run_sizeOf' hei,h3,h4]
   | list hbk hlen hcap hw hsz hrel=>
    rename_i b o' cs ty fr esz' cap
    have hx : (execOp a.eval o).run P w = .ok (.value (.slice (if cap = l.toNat then some ⟨b,o',none⟩ else some ⟨b,o' + l.toNat * ei.size,none⟩) (hh.toNat - l.toNat) (cap - l.toNat))) w:=by
     simp [execOp,ho,hv,Instr.sliceAt,Instr.slice,run_underlying' h2,hrun true xs.length cap hb h0 hlh (by omega),run_sizeOf' hei,Addr.add_at]
    by_cases hz : hh.toNat - l.toNat = 0
    ·have he2 : (xs.take hh.toNat).drop l.toNat = [] := List.drop_eq_nil_of_le (by simp; omega)
     rw [hz] at hx
     exact ⟨_,_,hkk,by rw [he2];exact .list0 (by omega),hx⟩
    ·have hne : cap ≠ l.toNat := by omega
     rw [if_neg hne] at hx
     obtain rfl : esz' = ei.size:=by
      have h5 : xs[0]? = some xs[0]:=List.getElem?_eq_getElem (by omega)
      have h6:=hw 0 _ h5
      have h7:=hall _ (List.getElem_mem (by omega : 0 < xs.length))
      omega
     have hln : ((xs.take hh.toNat).drop l.toNat).length = hh.toNat - l.toNat:=by simp;omega
     refine ⟨_,_,hkk,?_,hx⟩
     rw [← hln]
     refine .list (esz:=ei.size) hbk (by omega) (by omega) ?_ ?_ ?_
     ·intro r row hrow
      rw [List.getElem?_drop,List.getElem?_take] at hrow
      split at hrow
      ·exact hw _ _ hrow
      ·cases hrow
     ·have := Nat.mul_le_mul_right ei.size (show l.toNat + (hh.toNat - l.toNat) ≤ xs.length by omega)
      rw [Nat.add_mul] at this
      rw [hln];omega
     ·intro r row j v c hrow hj hc
      rw [List.getElem?_drop,List.getElem?_take] at hrow
      split at hrow
      ·refine hrel (l.toNat + r) row j v c hrow hj ?_
       rw [Nat.add_mul,← hc];congr 1;omega
      ·cases hrow
  ·rename_i el esz by' ag z j off len hk heq
   obtain ⟨rfl,ei,hei,rfl,_⟩:=tkOf_slice hk
   obtain ⟨hb,h0,hlh,hle,⟨rows,hi⟩,hkk⟩:=h
   rw [heq] at hr
   generalize hv : a.eval x = cv at hr
   cases hr with
   | sl hσ hlen hcap ha=>
    rename_i lc a' cap
    obtain ⟨l',hl1,hl2,_⟩:=hs.obj j _ hi
    rw [hσ] at hl1;cases hl1
    have hx : (execOp a.eval o).run P w = .ok (.value (.slice (if cap = l.toNat then a' else a'.map (·.add (l.toNat * ei.size))) (hh.toNat - l.toNat) (cap - l.toNat))) w:=by
     simp [execOp,ho,hv,Instr.sliceAt,Instr.slice,run_underlying' h2,hrun true len cap hb h0 hlh (by omega),run_sizeOf' hei,Addr.add_at]
    refine ⟨_,_,hkk,?_,hx⟩
    refine .sl hσ (by omega) (by omega) fun h0'=>?_
    obtain ⟨rfl,h9⟩:=ha (by omega)
    rw [if_neg (by omega)]
    refine ⟨?_,by omega⟩
    simp only [Option.map_some,Addr.add_at,Option.some.injEq,Addr.mk.injEq,and_true,true_and]
    rw [Nat.add_mul,hl2];omega
  ·rename_i el esz by' ag z hk heq
   obtain ⟨rfl,ei,hei,rfl,_⟩:=tkOf_slice hk
   obtain ⟨hb,h0,hlh,hle,hkk⟩:=h
   rw [heq] at hr
   generalize hv : a.eval x = cv at hr
   cases hr
   refine ⟨_,_,hkk,.nilsl,?_⟩
   have h3 : hh.toNat = 0:=by omega
   have h4 : l.toNat = 0:=by omega
   simp [execOp,ho,hv,Instr.sliceAt,Instr.slice,run_underlying' h2,hrun true 0 0 hb h0 hlh (by omega),run_sizeOf' hei,h3,h4]
  ·rename_i n el esz ag j r off hk heq
   obtain ⟨rfl,ei,hei,rfl,_⟩:=tkOf_array hk
   obtain ⟨hb,h0,hlh,hle,hln,hmax,rfl,⟨rows,hi,hrl⟩,hkk⟩:=h
   rw [heq] at hr
   generalize hv : a.eval x = cv at hr
   cases hr with
   | ptr hσ=>
    rename_i lc
    obtain ⟨l',hl1,hl2,hl3,_⟩:=hs.obj j _ hi
    rw [hσ] at hl1;cases hl1
    have hx : (execOp a.eval o).run P w = .ok (.value (.slice (some ⟨lc.b,lc.o + r * lc.esz + l.toNat * ei.size,none⟩) (hh.toNat - l.toNat) (n - l.toNat))) w:=by
     have hne : ¬ n = l.toNat:=by omega
     simp [execOp,ho,hv,Instr.sliceAt,Instr.sureAddr,run_underlying' h2,hrun false n n hb h0 hlh (by omega),run_sizeOf' hei,Addr.add_at,hne]
    refine ⟨_,_,hkk,?_,hx⟩
    refine .sl hσ (by omega) (by omega) fun h0'=>⟨?_,by omega⟩
    simp only [Option.some.injEq,Addr.mk.injEq,and_true,true_and]
    rw [Nat.add_mul,hl2];omega
  ·exact h.elim
def WSlice3 (ti : TI) (s : Store) (x : PV) (lo : Option PV) (hi mx : PV) (k : PV → Prop) : Prop:=
 ∃ l hh m,boundP lo 0 = some l ∧ boundP (some hi) 0 = some hh ∧ boundP (some mx) 0 = some m ∧ 0 ≤ l ∧ l ≤ hh ∧ hh ≤ m ∧ match ti.kind,x with
 | .slice _ esz _ _ _,.list xs=>m ≤ xs.length ∧ (∀ row ∈ xs,row.length = esz) ∧ k (if m = hh then .clip esz ((xs.take hh.toNat).drop l.toNat) else .list ((xs.take hh.toNat).drop l.toNat))
 | .slice _ esz _ _ _,.sl i off len=>m ≤ len ∧ (∃ rows,s[i]? = some (.rows esz rows)) ∧ k (.sl i (off + l.toNat) (hh.toNat - l.toNat))
 | .slice ..,.nilsl=>m ≤ 0 ∧ k .nilsl
 | _,_=>False
theorem ok_slice3 {T : TypeId} {x : Operand} {lo : Option Operand} {hi mx : Operand} {ti : TI} (ho : o.op = .slice T x lo (some hi) (some mx)) (ht : tinfo P T = some ti) (h : WSlice3 ti s (evO e x) (lo.map (evO e)) (evO e hi) (evO e mx) fun v=>k v s) : ReadOK P N o e s k:=
 fun C pub σ a w hs he=>by
  obtain ⟨i,d,h1,h2,rfl⟩:=tinfo_some ht
  obtain ⟨l,hh,m,hlo,hhi,hmx,h0,hlh,hhm,h⟩:=h
  have hr:=evO_rel he x
  have hrun : ∀ (len cap : Nat),m ≤ cap → (Instr.sliceBounds true len cap (lo.map a.eval) ((some hi).map a.eval) ((some mx).map a.eval)).run P w = .ok (l.toNat,hh.toNat,m.toNat) w:=by
   intro len cap hc
   have e0:=bound_run (P:=P) (w:=w) he (lo:=some mx) (d:=0) (code:=.slice3Acap) (y:=cap) hmx (by omega) hc
   have e1:=bound_run (P:=P) (w:=w) he (lo:=some hi) (d:=0) (code:=.slice3B) (y:=m.toNat) hhi (by omega) (by omega)
   have e2:=bound_run (P:=P) (w:=w) he (code:=.slice3C) (y:=hh.toNat) hlo h0 (by omega)
   unfold Instr.sliceBounds
   cases lo <;> simp_all
  simp only [Option.map_some] at hrun
  split at h
  ·rename_i el esz by' ag z xs hk heq
   obtain ⟨rfl,ei,hei,rfl,_⟩:=tkOf_slice hk
   obtain ⟨hml,hall,hkk⟩:=h
   rw [heq] at hr
   generalize hv : a.eval x = cv at hr
   cases hr with
   | list0 hc=>
    rename_i a' cap
    simp only [List.length_nil] at hml
    have h3 : hh.toNat = 0:=by omega
    have h4 : l.toNat = 0:=by omega
    have h5 : m.toNat = 0:=by omega
    refine ⟨_,.slice a' 0 0,hkk,?_,?_⟩
    ·split
     ·exact .clip (by simp) (by simpa using Rel.list0 (Nat.zero_le _))
     ·simpa using Rel.list0 (Nat.zero_le _)
    ·simp [execOp,ho,hv,Instr.sliceAt,Instr.slice,run_underlying' h2,hrun 0 cap (by omega),run_sizeOf' hei,h3,h4,h5]
   | list hbk hlen hcap hw hsz hrel=>
    rename_i b o' cs ty fr esz' cap
    have hx : (execOp a.eval o).run P w = .ok (.value (.slice (if m.toNat = l.toNat then some ⟨b,o',none⟩ else some ⟨b,o' + l.toNat * ei.size,none⟩) (hh.toNat - l.toNat) (m.toNat - l.toNat))) w:=by
     simp [execOp,ho,hv,Instr.sliceAt,Instr.slice,run_underlying' h2,hrun xs.length cap (by omega),run_sizeOf' hei,Addr.add_at]
    by_cases hz : hh.toNat - l.toNat = 0
    ·have he2 : (xs.take hh.toNat).drop l.toNat = [] := List.drop_eq_nil_of_le (by simp; omega)
     rw [hz] at hx
     refine ⟨_,_,hkk,?_,hx⟩
     rw [he2]
     split
     ·rw [show m.toNat - l.toNat = 0 by omega];exact .clip (by simp) (.list0 (Nat.zero_le _))
     ·exact .list0 (by omega)
    ·have hne : m.toNat ≠ l.toNat := by omega
     rw [if_neg hne] at hx
     obtain rfl : esz' = ei.size:=by
      have h5 : xs[0]? = some xs[0]:=List.getElem?_eq_getElem (by omega)
      have h6:=hw 0 _ h5
      have h7:=hall _ (List.getElem_mem (by omega : 0 < xs.length))
      omega
     have hln : ((xs.take hh.toNat).drop l.toNat).length = hh.toNat - l.toNat:=by simp;omega
     refine ⟨_,_,hkk,?_,hx⟩
     suffices key : Rel pub noSig (.list ((xs.take hh.toNat).drop l.toNat)) (.slice (some ⟨b,o' + l.toNat * ei.size,none⟩) (hh.toNat - l.toNat) (m.toNat - l.toNat)) by
      split
      ·rename_i hmh
       subst hmh
       exact .clip (fun row hrow=>hall row (List.mem_of_mem_take (List.mem_of_mem_drop hrow))) key
      ·exact key.up (noSig_le σ)
     rw [← hln]
     refine .list (esz:=ei.size) hbk (by omega) (by omega) ?_ ?_ ?_
     ·intro r row hrow
      rw [List.getElem?_drop,List.getElem?_take] at hrow
      split at hrow
      ·exact hw _ _ hrow
      ·cases hrow
     ·have := Nat.mul_le_mul_right ei.size (show l.toNat + (hh.toNat - l.toNat) ≤ xs.length by omega)
      rw [Nat.add_mul] at this
      rw [hln];omega
     ·intro r row j v c hrow hj hc
      rw [List.getElem?_drop,List.getElem?_take] at hrow
      split at hrow
      ·refine hrel (l.toNat + r) row j v c hrow hj ?_
       rw [Nat.add_mul,← hc];congr 1;omega
      ·cases hrow
  ·rename_i el esz by' ag z j off len hk heq
   obtain ⟨rfl,ei,hei,rfl,_⟩:=tkOf_slice hk
   obtain ⟨hml,⟨rows,hi'⟩,hkk⟩:=h
   rw [heq] at hr
   generalize hv : a.eval x = cv at hr
   cases hr with
   | sl hσ hlen hcap ha=>
    rename_i lc a' cap
    obtain ⟨l',hl1,hl2,_⟩:=hs.obj j _ hi'
    rw [hσ] at hl1;cases hl1
    have hx : (execOp a.eval o).run P w = .ok (.value (.slice (if m.toNat = l.toNat then a' else a'.map (·.add (l.toNat * ei.size))) (hh.toNat - l.toNat) (m.toNat - l.toNat))) w:=by
     simp [execOp,ho,hv,Instr.sliceAt,Instr.slice,run_underlying' h2,hrun len cap (by omega),run_sizeOf' hei,Addr.add_at]
    refine ⟨_,_,hkk,?_,hx⟩
    refine .sl hσ (by omega) (by omega) fun h0'=>?_
    obtain ⟨rfl,h9⟩:=ha (by omega)
    rw [if_neg (by omega)]
    refine ⟨?_,by omega⟩
    simp only [Option.map_some,Addr.add_at,Option.some.injEq,Addr.mk.injEq,and_true,true_and]
    rw [Nat.add_mul,hl2];omega
  ·rename_i el esz by' ag z hk heq
   obtain ⟨rfl,ei,hei,rfl,_⟩:=tkOf_slice hk
   obtain ⟨hml,hkk⟩:=h
   rw [heq] at hr
   generalize hv : a.eval x = cv at hr
   cases hr
   refine ⟨_,_,hkk,.nilsl,?_⟩
   have h3 : hh.toNat = 0:=by omega
   have h4 : l.toNat = 0:=by omega
   have h5 : m.toNat = 0:=by omega
   simp [execOp,ho,hv,Instr.sliceAt,Instr.slice,run_underlying' h2,hrun 0 0 (by omega),run_sizeOf' hei,h3,h4,h5]
  ·exact h.elim
end
end Go.Pv
namespace Go.Pv
open Go Go.RowKit
set_option linter.unusedVariables false
set_option linter.unusedSimpArgs false
section
variable {P : Program} {N : FrN} {o : Oper} {e : Env} {s : Store} {k : PV → Store → Prop}
def fillP (place : Nat → Option (Nat × Nat)) (cells : List PV) : List (Nat × PV) → Option (List PV)
 | []=>some cells
 | (i,v) :: rest=>match place i,cellsP v with
  | some (off,size),some cs=>if cs.length = size ∧ off + size ≤ cells.length then fillP place (spliceP cells off cs) rest else none
  | _,_=>none
theorem fold_splice (vs : List Value) : ∀ (cs : Array Value) (off k : Nat),(vs.zipIdx k).foldl (fun cs (x : Value × Nat)=>cs.setIfInBounds (off + x.2) x.1) cs = spliceA cs (off + k) vs:=by
 induction vs with
 | nil=>intros;rfl
 | cons v vs ih=>intro cs off k;simp only [List.zipIdx_cons,List.foldl_cons,spliceA];rw [ih];simp [Nat.add_assoc]
theorem fill_rel {pub : PHeap} {σ : Sig} {place : Nat → Option (Nat × Nat)} (parts : List (Nat × PV)) : ∀ (cells : List PV) (arr : Array Value) (vs : List (Nat × Value)) (out : List PV),RelA pub σ cells arr → fillP place cells parts = some out →
  vs.length = parts.length → (∀ (j : Nat) (p : Nat × PV) (v : Nat × Value),parts[j]? = some p → vs[j]? = some v → v.1 = p.1 ∧ Rel pub σ p.2 v.2) →
  ∃ arr',Instr.fill place arr vs = some arr' ∧ RelA pub σ out arr':=by
 induction parts with
 | nil=>
  intro cells arr vs out hr hf hl _
  simp [fillP] at hf;subst hf
  have : vs = []:=List.length_eq_zero_iff.1 (by simpa using hl)
  subst this
  exact ⟨arr,rfl,hr⟩
 | cons p parts ih=>
  intro cells arr vs out hr hf hl hrel
  obtain ⟨i,v⟩:=p
  cases vs with
  | nil=>simp at hl
  | cons q vs=>
   obtain ⟨i',cv⟩:=q
   obtain ⟨rfl,hv⟩:=hrel 0 (i,v) (i',cv) rfl rfl
   unfold fillP at hf
   split at hf
   ·rename_i off size cs hp hc
    split at hf
    ·rename_i hb
     have hcell:=cellsP_rel hc hv
     simp only at hp
     have hz : cv.cells.zipIdx.foldl (fun cs (x : Value × Nat)=>cs.setIfInBounds (off + x.2) x.1) arr = spliceA arr off cv.cells.toList:=by
      rw [← Array.foldl_toList,Array.toList_zipIdx]
      exact fold_splice _ _ _ _
     obtain ⟨arr',h1,h2⟩:=ih (spliceP cells off cs) (spliceA arr off cv.cells.toList) vs out (by
      refine ⟨by rw [spliceA_size,splice_length (by omega)];exact hr.1,fun j x y hx hy=>?_⟩
      rw [splice_get (by omega)] at hx
      have hlc : cv.cells.toList.length = cs.length:=by simp [hcell.1]
      rw [spliceA_get _ _ _ _ (by rw [hlc,hr.1];omega),hlc] at hy
      split at hx
      ·rename_i hin
       rw [if_pos hin,Array.getElem?_toList] at hy
       exact hcell.2 _ _ _ hx hy
      ·rename_i hin
       rw [if_neg hin] at hy
       exact hr.2 _ _ _ hx hy) hf (by simpa using hl) (fun j a b ha hb=>hrel (j + 1) a b (by simpa using ha) (by simpa using hb))
     refine ⟨arr',?_,h2⟩
     unfold Instr.fill
     simp only [hp]
     rw [if_neg (by simp [hcell.1,hb.1,hr.1];omega)]
     rw [← hz] at h1
     exact h1
    ·cases hf
   ·cases hf
def WBuild (ti : TI) (parts : List (Nat × PV)) (k : PV → Prop) : Prop:=
 ∃ z out,ti.zero = some z ∧ (match ti.kind with
  | .struct fs=>fillP (fun i=>(fs[i]?).map fun f=>(f.1,f.2.2.1)) z parts
  | .array _ _ esz _=>fillP (fun i=>some (i * esz,esz)) z parts
  | _=>none) = some out ∧ k (.agg out)
theorem zero_relA {pub : PHeap} {σ : Sig} {T : TypeId} {i : TypeInfo} (h1 : P.info? T = some i) {z : List PV} (hz : zeroOf P T = some z) : ∃ zv,i.zero = some zv ∧ RelA pub σ z zv.cells:=by
 simp only [zeroOf,h1,Option.bind_some,Option.map_eq_some_iff] at hz
 obtain ⟨zv,h3,rfl⟩:=hz
 refine ⟨zv,h3,by simp,fun j v c hv hc=>?_⟩
 simp only [List.getElem?_map,Array.getElem?_toList,hc,Option.map_some,Option.some.injEq] at hv
 subst hv;exact ofConst_rel _ _ _ _
theorem parts_rel {pub : PHeap} {σ : Sig} {a : Act} (he : ER pub σ N e a) (parts : Array (Nat × Operand)) : (parts.map fun (p : Nat × Operand) => (p.1,a.eval p.2)).toList.length = (parts.toList.map fun p => (p.1,evO e p.2)).length ∧
  ∀ (j : Nat) (p : Nat × PV) (v : Nat × Value),(parts.toList.map fun p=>(p.1,evO e p.2))[j]? = some p → (parts.map fun (p : Nat × Operand)=>(p.1,a.eval p.2)).toList[j]? = some v → v.1 = p.1 ∧ Rel pub σ p.2 v.2:=by
 refine ⟨by simp,fun j p v hp hv=>?_⟩
 simp only [List.getElem?_map,Array.toList_map,Option.map_eq_some_iff] at hp hv
 obtain ⟨u,hu,rfl⟩:=hp
 obtain ⟨u',hu',rfl⟩:=hv
 rw [hu] at hu';cases hu'
 exact ⟨rfl,evO_rel he _⟩
theorem run_mapM_sizes {w : World} (fields : Array Field) (h : ∀ (j : Nat) (f : Field),fields[j]? = some f → ∃ i d,P.info? f.type = some i ∧ i.size ≠ 0 ∧ P.underlying f.type = some d) :
  (fields.mapM fun f=>(do pure (f.offset,← sizeOf f.type) : Sem (Nat × Nat))).run P w = .ok (fields.map fun f=>(f.offset,((P.info? f.type).map (·.size)).getD 0)) w:=by
 have key : ∀ (l : List Field),(∀ f ∈ l,∃ i,P.info? f.type = some i) → (l.mapM fun f=>(do pure (f.offset,← sizeOf f.type) : Sem (Nat × Nat))).run P w = .ok (l.map fun f=>(f.offset,((P.info? f.type).map (·.size)).getD 0)) w:=by
  intro l
  induction l with
  | nil=>intro _;rfl
  | cons f l ih=>
   intro hl
   obtain ⟨i,hi⟩:=hl f (by simp)
   have:=ih fun g hg=>hl g (by simp [hg])
   simp only [List.mapM_cons,Sem.run_bind,run_sizeOf' hi,Result.andThen_ok,Sem.run_pure,this,List.map_cons,hi,Option.map_some,Option.getD_some]
 rw [Array.mapM_eq_mapM_toList,Sem.run_map,key _ (fun f hf=>by
  obtain ⟨j,hj⟩:=List.mem_iff_getElem?.1 hf
  rw [Array.getElem?_toList] at hj
  obtain ⟨i,_,hi,_⟩:=h j f hj
  exact ⟨i,hi⟩)]
 simp only [Result.andThen_ok]
 congr 1
 apply Array.ext'
 simp
theorem ok_build {T : TypeId} {parts : Array (Nat × Operand)} {ti : TI} (ho : o.op = .build T parts) (ht : tinfo P T = some ti) (h : WBuild ti (parts.toList.map fun p=>(p.1,evO e p.2)) fun v=>k v s) : ReadOK P N o e s k:=
 fun C pub σ a w hs he=>by
  obtain ⟨i,d,h1,h2,rfl⟩:=tinfo_some ht
  obtain ⟨z,out,hz,hf,hk⟩:=h
  obtain ⟨zv,hzv,hzr⟩:=zero_relA (pub:=pub) (σ:=σ) h1 hz
  have hp:=parts_rel he parts
  simp only at hf
  split at hf
  ·rename_i fs hkd
   obtain ⟨fields,rfl,rfl,hall⟩:=tkOf_struct hkd
   obtain ⟨arr',h3,h4⟩:=fill_rel _ _ _ _ _ hzr hf hp.1 hp.2
   refine ⟨_,.agg arr',hk,.agg h4.1 h4.2,?_⟩
   have hpl : (fun (i : Nat)=>(List.map (fun (f : Field)=>(f.offset,f.type,((P.info? f.type).map (·.size)).getD 0,aggOf P f.type)) fields.toList)[i]?.map fun (f : Nat × Nat × Nat × Bool)=>(f.1,f.2.2.1)) = fun (i : Nat)=>(fields.map fun f=>(f.offset,((P.info? f.type).map (·.size)).getD 0))[i]?:=by
    funext i;simp [List.getElem?_map,Array.getElem?_map,Function.comp_def]
   rw [hpl] at h3
   have hm:=run_mapM_sizes (P:=P) (w:=w) fields hall
   simp only [bind_pure_comp] at hm
   simp only [Array.toList_map,Array.getElem?_map] at h3
   simp [execOp,ho,Instr.build,zeroValue,run_typeInfo' h1,hzv,run_underlying' h2,hm,h3]
  ·rename_i n el esz ag hkd
   obtain ⟨rfl,ei,hei,rfl,_⟩:=tkOf_array hkd
   obtain ⟨arr',h3,h4⟩:=fill_rel _ _ _ _ _ hzr hf hp.1 hp.2
   simp only [Array.toList_map] at h3
   exact ⟨_,.agg arr',hk,.agg h4.1 h4.2,by simp [execOp,ho,Instr.build,zeroValue,run_typeInfo' h1,hzv,run_underlying' h2,run_sizeOf' hei,h3]⟩
  ·cases hf
def fillRows (esz : Nat) (rows : List (List PV)) : List (Nat × PV) → Option (List (List PV))
 | []=>some rows
 | (i,v) :: rest=>match cellsP v with
  | some cs=>if cs.length = esz ∧ i < rows.length then fillRows esz (rows.set i cs) rest else none
  | none=>none
theorem RowsIn.set {pub : PHeap} {σ : Sig} {rows : List (List PV)} {arr : Array Value} {esz i : Nat} {cs : List PV} {c : Value} (h : RowsIn (Rel pub σ) rows arr 0 esz) (hi : i < rows.length) (hl : cs.length = esz) (hsz : rows.length * esz ≤ arr.size)
  (hc : c.cells.size = cs.length ∧ ∀ (j : Nat) (x : PV) (y : Value),cs[j]? = some x → c.cells[j]? = some y → Rel pub σ x y) : RowsIn (Rel pub σ) (rows.set i cs) (spliceA arr (i * esz) c.cells.toList) 0 esz:=by
 have hf:=row_fits (esz:=esz) hi (Nat.le_refl _)
 have hlc : c.cells.toList.length = esz:=by simp [hc.1,hl]
 refine ⟨fun r row hr=>?_,fun r row j v y hr hj hy=>?_⟩
 ·by_cases e : r = i
  ·subst e;rw [List.getElem?_set_self hi] at hr;cases hr;exact hl
  ·rw [List.getElem?_set_ne (by omega)] at hr;exact h.wide r row hr
 ·rw [Nat.zero_add,spliceA_get _ _ _ _ (by rw [hlc]; omega),hlc] at hy
  by_cases e : r = i
  ·subst e
   rw [List.getElem?_set_self hi] at hr;cases hr
   have hjl:=lt_of_getElem? hj
   rw [if_pos (by omega),Array.getElem?_toList] at hy
   refine hc.2 j v y hj ?_
   rw [← hy];congr 1;omega
  ·rw [List.getElem?_set_ne (by omega)] at hr
   have hjl:=lt_of_getElem? hj
   rw [h.wide r row hr] at hjl
   have hrl:=lt_of_getElem? hr
   rw [if_neg ?_] at hy
   ·exact h.rel r row j v y hr hj (by rw [Nat.zero_add];exact hy)
   ·rcases Nat.lt_or_gt_of_ne e with h' | h'
    ·have : (r + 1) * esz ≤ i * esz := Nat.mul_le_mul_right _ (by omega)
     rw [Nat.add_mul] at this;omega
    ·have : (i + 1) * esz ≤ r * esz := Nat.mul_le_mul_right _ (by omega)
     rw [Nat.add_mul] at this;omega
theorem fillRows_rel {pub : PHeap} {σ : Sig} {esz : Nat} (parts : List (Nat × PV)) : ∀ (rows : List (List PV)) (arr : Array Value) (vs : List (Nat × Value)) (out : List (List PV)),RowsIn (Rel pub σ) rows arr 0 esz → arr.size = rows.length * esz → fillRows esz rows parts = some out →
  vs.length = parts.length → (∀ (j : Nat) (p : Nat × PV) (v : Nat × Value),parts[j]? = some p → vs[j]? = some v → v.1 = p.1 ∧ Rel pub σ p.2 v.2) →
  ∃ arr',Instr.fill (fun i=>some (i * esz,esz)) arr vs = some arr' ∧ RowsIn (Rel pub σ) out arr' 0 esz ∧ arr'.size = out.length * esz ∧ out.length = rows.length:=by
 induction parts with
 | nil=>
  intro rows arr vs out hr hsz hf hl _
  simp [fillRows] at hf;subst hf
  have : vs = []:=List.length_eq_zero_iff.1 (by simpa using hl)
  subst this
  exact ⟨arr,rfl,hr,hsz,rfl⟩
 | cons p parts ih=>
  intro rows arr vs out hr hsz hf hl hrel
  obtain ⟨i,v⟩:=p
  cases vs with
  | nil=>simp at hl
  | cons q vs=>
   obtain ⟨i',cv⟩:=q
   obtain ⟨rfl,hv⟩:=hrel 0 (i,v) (i',cv) rfl rfl
   unfold fillRows at hf
   split at hf
   ·rename_i cs hc
    split at hf
    ·rename_i hb
     have hcell:=cellsP_rel hc hv
     simp only at hb hcell hf
     have hfit:=row_fits (esz:=esz) hb.2 (Nat.le_refl _)
     have hz : cv.cells.zipIdx.foldl (fun cs (x : Value × Nat)=>cs.setIfInBounds (i' * esz + x.2) x.1) arr = spliceA arr (i' * esz) cv.cells.toList:=by
      rw [← Array.foldl_toList,Array.toList_zipIdx]
      exact fold_splice _ _ _ _
     obtain ⟨arr',h1,h2,h3,h4⟩:=ih _ (spliceA arr (i' * esz) cv.cells.toList) vs out (hr.set hb.2 hb.1 (by omega) hcell) (by rw [spliceA_size,List.length_set];exact hsz) hf (by simpa using hl)
      (fun j a b ha hb=>hrel (j + 1) a b (by simpa using ha) (by simpa using hb))
     refine ⟨arr',?_,h2,h3,by simpa using h4⟩
     unfold Instr.fill
     simp only
     rw [if_neg (by simp [hcell.1,hb.1,hsz];omega)]
     rw [← hz] at h1
     exact h1
    ·cases hf
   ·cases hf
def WBuildSlice (ti : TI) (s : Store) (len : Nat) (parts : List (Nat × PV)) (k : PV → Store → Prop) : Prop:=
 ∃ e esz by' ag z rows,ti.kind = .slice e esz by' ag (some z) ∧ z.length = esz ∧ len * esz ≤ 16777216 ∧ esz ≠ 0 ∧ fillRows esz (List.replicate len z) parts = some rows ∧
  k (.sl s.length 0 len) (s ++ [.rows esz rows])
theorem ok_buildSlice {T : TypeId} {len : Nat} {parts : Array (Nat × Operand)} {ti : TI} (ho : o.op = .buildSlice T len parts) (ht : tinfo P T = some ti) (h : WBuildSlice ti s len (parts.toList.map fun p=>(p.1,evO e p.2)) k) : OpOK P N o e s k:=by
 intro C pub σ a w next Q hs he hnext
 obtain ⟨i,d,h1,h2,rfl⟩:=tinfo_some ht
 obtain ⟨el,esz,by',ag,z,rows,hk,hzl,hmax,hez,hf,hkk⟩:=h
 obtain ⟨rfl,ei,hei,rfl,rfl,_,hz⟩:=tkOf_slice hk
 obtain ⟨zv,hzv,hzr⟩:=zero_relA (pub:=pub) (σ:=σ) hei hz
 have hzs : zv.cells.size = ei.size:=by rw [← hzl,hzr.1]
 have hp:=parts_rel he parts
 have hzero:=zero_rows (pub:=pub) (σ:=σ) hei hzv (m:=len) (n:=len) (Nat.le_refl _) hz
 rw [hzs] at hzero
 have hle:=hs.toBase.le_add ⟨w.heap.size,0,ei.size,len⟩
 obtain ⟨arr',h3,h4,h5,h6⟩:=fillRows_rel _ _ _ _ _ hzero (by simp) hf hp.1 hp.2
 have hlen : rows.length = len:=by simpa using h6
 simp only [Array.toList_map] at h3
 have hrun : (execOp a.eval o).run P w = .ok (.value (.slice (some ⟨w.heap.size,0,none⟩) len len)) { w with heap:=w.heap.push (.cells arr' el) }:=by
  have hm' : ¬ (len * ei.size > 16777216):=by omega
  have er : ∀ f : Nat → Value,(Array.range 0).map f = #[]:=fun f=>Array.eq_empty_of_size_eq_zero (by simp)
  by_cases hz0 : len = 0
  ·subst hz0
   simp only [Nat.zero_mul,er] at h3
   simp [execOp,ho,Instr.buildSlice,run_underlying' h2,run_sizeOf' hei,er,h3,newRow]
  ·have hz1 : len * ei.size ≠ 0 := Nat.mul_ne_zero hz0 hez
   simp [execOp,ho,Instr.buildSlice,run_underlying' h2,run_sizeOf' hei,hm',hz1,zeroValue,run_typeInfo' hei,hzv,hzs,h3,newRow]
 exact wp_value hrun (hnext _ _ _ pub _ _ hkk (new_rows hs arr' el ei.size len rows (by omega) (by rw [h5,hlen];exact Nat.le_refl _) h4) (he.mono PHeap.le.rfl' hle) (sl_new (Nat.le_refl _) (Nat.le_refl _) (by
  have h7 : 0 < ei.size:=by omega
  have h8 : len * 1 ≤ len * ei.size:=Nat.mul_le_mul_left _ h7
  simp [maxLen];omega)))
end
end Go.Pv
namespace Go.Pv
open Go Go.RowKit
set_option linter.unusedVariables false
set_option linter.unusedSimpArgs false
section
variable {P : Program} {N : FrN} {o : Oper} {e : Env} {s : Store} {k : PV → Store → Prop}
def WSrc (s : Store) (esz : Nat) (y : PV) (ys : List (List PV)) : Prop:=
 match y with
 | .list xs=>ys = xs
 | .nilsl=>ys = []
 | .sl j off len=>∃ rs,s[j]? = some (.rows esz rs) ∧ off + len ≤ rs.length ∧ ys = (rs.drop off).take len
 | _=>False
def isDst : PV → Bool
 | .nilsl | .sl _ _ _=>true
 | _=>false
def killP (s : Store) : PV → Store
 | .sl i _ _=>s.set i .dead
 | _=>s
def WAppend (ti : TI) (s : Store) (x y : PV) (k : PV → Store → Prop) : Prop:=
 ∃ e esz by' ag z xs ys,ti.kind = .slice e esz by' ag (some z) ∧ z.length = esz ∧ esz ≠ 0 ∧ by' ≠ 0 ∧ WSrc s esz x xs ∧ isDst x = true ∧ WSrc s esz y ys ∧ (∀ row ∈ ys,row.length = esz ∧ row.all isCell = true) ∧
  (xs.length + ys.length) * by' ≤ 140737488355328 ∧ k (.sl s.length 0 (xs.length + ys.length)) (killP s x ++ [.rows esz (xs ++ ys)])
theorem SR.void {C : Ctx} {p : PHeap} {σ : Sig} {s : Store} {w : World} (h : SR C p σ s w) (b o esz : Nat) : SR C p (σ.add s.length ⟨b,o,esz,0⟩) (s ++ [.rows esz []]) w:=by
 have hle:=h.toBase.le_add ⟨b,o,esz,0⟩
 have halive : ∀ j lj,Alive (s ++ [.rows esz []]) (σ.add s.length ⟨b,o,esz,0⟩) j lj → Alive s σ j lj:=by
  rintro j lj ⟨oj,h1,h2,h3,h4⟩
  rcases Nat.lt_trichotomy j s.length with hj | hj | hj
  ·rw [List.getElem?_append_left hj] at h1
   exact ⟨oj,h1,h2,by simpa [Sig.add,Nat.ne_of_lt hj] using h3,h4⟩
  ·subst hj;rw [Sig.add_same] at h3;cases h3;simp at h4
  ·rw [List.getElem?_eq_none (by simp;omega)] at h1;cases h1
 exact {
  pubIn:=h.pubIn
  obj:=fun j oj hj=>by
   rcases Nat.lt_trichotomy j s.length with hj' | rfl | hgt
   ·rw [List.getElem?_append_left hj'] at hj
    exact (h.obj j oj hj).mono PHeap.le.rfl' hle fun _ _ _ _=>⟨rfl,rfl⟩
   ·simp at hj; subst hj
    exact ⟨_,Sig.add_same _ _ _,rfl,by simp,fun hn=>by simp at hn⟩
   ·rw [List.getElem?_eq_none (by simp;omega)] at hj;cases hj
  inj:=fun a b la lb ha hb' e=>h.inj a b la lb (halive a la ha) (halive b lb hb') e
  sig:=fun j hj=>by
   have : j ≠ s.length:=by simp at hj;omega
   simp only [Sig.add,this,if_false]
   exact h.sig j (by simp at hj;omega)
  os:=h.os
  tape:=h.tape
  output:=h.output
  size:=h.size
  frame:=h.frame
  own:=fun j lj hj=>h.own j lj (halive j lj hj)
  ple:=h.ple
  sle:=h.sle.trans hle }
theorem src_run {C : Ctx} {pub : PHeap} {σ : Sig} {w : World} (hs : SR C pub σ s w) {esz : Nat} {y : PV} {ys : List (List PV)} {cy : Value} (h : WSrc s esz y ys) (hr : Rel pub σ y cy) (hw : ∀ row ∈ ys,row.length = esz) :
  (Builtin.lenOf cy).run P w = .ok ys.length w ∧ ∃ arr,(Builtin.firstCells esz ys.length cy).run P w = .ok arr w ∧ arr.size = ys.length * esz ∧ RowsIn (Rel pub σ) ys arr 0 esz:=by
 have hwide : ∀ (r : Nat) (row : List PV),ys[r]? = some row → row.length = esz:=fun r row hr=>hw row (List.mem_of_getElem? hr)
 unfold WSrc at h
 split at h
 ·subst h
  cases hr with
  | list0 hc=>
   rename_i a cap
   refine ⟨by simp [Builtin.lenOf],#[],?_,by simp,⟨hwide,fun r row j v c h1=>by simp at h1⟩⟩
   cases a <;> simp [Builtin.firstCells,loadCells,loadCellsFrom]
  | list hb hlen hcap hw' hsz hrel=>
   rename_i b o' cs ty fr esz' cap
   by_cases h0 : ys.length = 0
   ·have : ys = [] := List.length_eq_zero_iff.1 h0
    subst this
    exact ⟨by simp [Builtin.lenOf],#[],by simp [Builtin.firstCells,loadCells,loadCellsFrom],by simp,⟨hwide,fun r row j v c h1=>by simp at h1⟩⟩
   ·obtain rfl : esz' = esz := by
     have h5 : ys[0]? = some ys[0]:=List.getElem?_eq_getElem (by omega)
     have h6:=hw' 0 _ h5
     have h7:=hwide 0 _ h5
     omega
    refine ⟨by simp [Builtin.lenOf],cs.extract o' (o' + ys.length * esz'),?_,by simp;omega,⟨hwide,fun r row j v c h1 h2 h3=>?_⟩⟩
    ·simp only [Builtin.firstCells];exact run_loadCells (hs.pubIn _ _ hb) _ hsz
    ·rw [Array.getElem?_extract] at h3
     split at h3
     ·exact (hrel r row j v c h1 h2 (by rw [← h3];congr 1;omega)).up (noSig_le σ)
     ·cases h3
 ·subst h
  cases hr
  exact ⟨by simp [Builtin.lenOf],#[],by simp [Builtin.firstCells],by simp,⟨hwide,fun r row j v c h1=>by simp at h1⟩⟩
 ·rename_i i off len
  obtain ⟨rs,hi,hb,rfl⟩:=h
  have hl : ((rs.drop off).take len).length = len:=by simp;omega
  rw [hl]
  cases hr with
  | sl hσ hlen hcap ha=>
   rename_i l a' cap
   by_cases h0 : len = 0
   ·subst h0
    refine ⟨by simp [Builtin.lenOf],#[],?_,by simp,⟨hwide,fun r row j v c h1=>by simp at h1⟩⟩
    cases a' <;> simp [Builtin.firstCells,loadCells,loadCellsFrom]
   ·obtain ⟨rfl,hfit⟩ := ha (by omega)
    obtain ⟨hn,hle,cs,ty,hbk,hsz,hR⟩:=hs.rows hi hσ (by rintro rfl;simp at hb;omega)
    obtain ⟨l',hl1,hl2,_⟩:=hs.obj i _ hi
    rw [hσ] at hl1;cases hl1
    subst hl2
    have hmul : off * l.esz + len * l.esz ≤ l.n * l.esz:=by rw [← Nat.add_mul];exact Nat.mul_le_mul_right _ (by omega)
    refine ⟨by simp [Builtin.lenOf],cs.extract (l.o + off * l.esz) (l.o + off * l.esz + len * l.esz),?_,by simp;omega,⟨hwide,fun r row j v c h1 h2 h3=>?_⟩⟩
    ·simp only [Builtin.firstCells];exact run_loadCells hbk _ (by omega)
    ·rw [Array.getElem?_extract] at h3
     rw [List.getElem?_take] at h1
     split at h1
     ·rw [List.getElem?_drop] at h1
      split at h3
      ·refine hR.rel (off + r) row j v c h1 h2 ?_
       rw [Nat.add_mul,← h3];congr 1;omega
      ·cases h3
     ·cases h1
 ·exact h.elim
theorem RowsIn.append {Rl : PV → Value → Prop} {xs ys : List (List PV)} {xa ya : Array Value} {esz : Nat} (h : RowsIn Rl xs xa 0 esz) (g : RowsIn Rl ys ya 0 esz) (hx : xa.size = xs.length * esz) (rest : Array Value) (hy : ya.size = ys.length * esz) : RowsIn Rl (xs ++ ys) (xa ++ ya ++ rest) 0 esz:=by
 refine ⟨fun r row hr=>?_,fun r row j v c hr hj hc=>?_⟩
 ·rw [List.getElem?_append] at hr
  split at hr
  ·exact h.wide _ _ hr
  ·exact g.wide _ _ hr
 ·rw [List.getElem?_append] at hr
  have hjl:=lt_of_getElem? hj
  split at hr
  ·rename_i hlt
   rw [h.wide _ _ hr] at hjl
   have hf:=row_fits (esz:=esz) hlt (Nat.le_refl _)
   rw [Array.getElem?_append_left (by simp;omega),Array.getElem?_append_left (by omega)] at hc
   exact h.rel _ _ _ _ _ hr hj hc
  ·rename_i hge
   rw [g.wide _ _ hr] at hjl
   have hrl:=lt_of_getElem? hr
   have hf:=row_fits (esz:=esz) hrl (Nat.le_refl _)
   have h9 : r * esz = xs.length * esz + (r - xs.length) * esz:=by rw [← Nat.add_mul];congr 1;omega
   rw [Array.getElem?_append_left (by simp;omega),Array.getElem?_append_right (by omega)] at hc
   refine g.rel _ _ _ _ _ hr hj ?_
   rw [← hc];congr 1;omega
theorem run_append_place {w : World} {T T2 : TypeId} {el : TypeId} {d2 : TypeDesc} {ei : TypeInfo} (h2 : P.underlying T = some (.slice el)) (hei : P.info? el = some ei) (hd2 : P.underlying T2 = some d2) (hd : ∀ kd,d2 ≠ .int kd)
  {a : Option Addr} {len cap n : Nat} {y : Value} {arr : Array Value} {ty : TypeId} (hl : (Builtin.lenOf y).run P w = .ok n w) (hf : (Builtin.firstCells ei.size n y).run P w = .ok arr w) (hc : len + n ≤ cap) :
  (Builtin.append_ #[T,T2] ty #[.slice a len cap,y]).run P w = ((match a with | some a=>storeCells (a.add (len * ei.size)) arr.toList | none=>pure () : Sem Unit).run P w).andThen fun _ w'=>.ok (.slice a (len + n) cap) w':=by
 have hx : (match d2 with | .int _=>true | _=>false) = false:=by cases d2 <;> first | rfl | (exact absurd rfl (hd _))
 simp [Builtin.append_,run_underlying' h2,run_sizeOf' hei,run_underlying' hd2,hx,hl,hf,hc]
 cases a <;> simp
theorem run_append_grow {w : World} {T T2 : TypeId} {el : TypeId} {d2 : TypeDesc} {ei : TypeInfo} {zv : Value} (h2 : P.underlying T = some (.slice el)) (hei : P.info? el = some ei) (hz : ei.zero = some zv) (hd2 : P.underlying T2 = some d2) (hd : ∀ kd,d2 ≠ .int kd)
  {a : Option Addr} {len cap n : Nat} {y : Value} {old arr : Array Value} {ty : TypeId} (hl : (Builtin.lenOf y).run P w = .ok n w) (hf : (Builtin.firstCells ei.size n y).run P w.drew = .ok arr w.drew)
  (ho : (Builtin.firstCells ei.size len (.slice a len cap)).run P w.drew = .ok old w.drew) (hc : ¬ len + n ≤ cap) (hb : ei.bytes ≠ 0) (hroom : (len + n) * ei.bytes ≤ 140737488355328) :
  ∃ nc,len + n ≤ nc ∧ nc ≤ maxLen ∧
   (Builtin.append_ #[T,T2] ty #[.slice a len cap,y]).run P w = .ok (.slice (some ⟨w.heap.size,0,none⟩) (len + n) nc) (w.drew.alloc (.cells (old ++ arr ++ Builtin.zeroCells zv.cells (nc - (len + n))) el)):=by
 have hx : (match d2 with | .int _=>true | _=>false) = false:=by cases d2 <;> first | rfl | (exact absurd rfl (hd _))
 have hle : len + n ≤ (len + n) * ei.bytes:=Nat.le_mul_of_pos_right _ (by omega)
 have hcap:=growslice_fits (need:=len + n) (old:=cap) (bytes:=ei.bytes) (by omega) hroom
 have hcap' : ¬ (281474976710656 < Builtin.nextslicecap (len + n) cap * ei.bytes):=by omega
 have hq : (Question.appendCap (len + n) cap el).forced = false:=rfl
 refine ⟨(Question.appendCap (len + n) cap el).cut (w.tape w.drawn (.appendCap (len + n) cap el)),?_,?_,?_⟩
 ·simp only [Question.cut];omega
 ·simp only [Question.cut,maxLen]
  have:=Nat.mod_lt (w.tape w.drawn (.appendCap (len + n) cap el)) (show 0 < 2 ^ 63 - (len + n) by omega)
  omega
 ·have h64 : ¬ (IntKind.i64.max < (len : Int) + (n : Int) ∧ ei.bytes = 0) := by omega
  simp [Builtin.append_,run_underlying' h2,run_sizeOf' hei,run_underlying' hd2,hx,hl,hc,run_typeInfo' hei,hb,hq,zeroValue,hz,newRow,hcap',hf,ho]
theorem ok_append {x y : Operand} {T T2 : TypeId} {ti ti2 : TI} (ho : o.op = .call { callee := .builtin .append,args := #[x,y],argTypes := #[T,T2] }) (ht : tinfo P T = some ti) (ht2 : tinfo P T2 = some ti2) (hk2 : ∀ kd,ti2.kind ≠ .int kd)
  (h : WAppend ti s (evO e x) (evO e y) k) : OpOK P N o e s k:=by
 intro C pub σ a w next Q hs he hnext
 obtain ⟨i,d,h1,h2,rfl⟩:=tinfo_some ht
 obtain ⟨i2,d2,_,hd2,rfl⟩:=tinfo_some ht2
 have hd : ∀ kd,d2 ≠ .int kd:=by rintro kd rfl;exact hk2 kd rfl
 obtain ⟨el,esz,by',ag,z,xs,ys,hk,hzl,hez,hby,hx,hdst,hy,hcell,hroom,hkk⟩:=h
 obtain ⟨rfl,ei,hei,rfl,rfl,_,hz⟩:=tkOf_slice hk
 have hrx:=evO_rel he x
 have hry:=evO_rel he y
 obtain ⟨zv,hzv,hzr⟩:=zero_relA (pub:=pub) (σ:=σ) hei hz
 have hzs : zv.cells.size = ei.size:=by rw [← hzl,hzr.1]
 have hxw : ∀ row ∈ xs,row.length = ei.size:=by
  generalize evO e x = px at hx hdst hrx
  obtain ⟨cq,hcq⟩ : ∃ cq,a.eval x = cq:=⟨_,rfl⟩
  rw [hcq] at hrx
  unfold WSrc at hx
  split at hx
  ·simp [isDst] at hdst
  ·subst hx;simp
  ·rename_i j off len
   obtain ⟨rs,hi,hb,rfl⟩:=hx
   intro row hrow
   have hrow':=List.mem_of_mem_drop (List.mem_of_mem_take hrow)
   obtain ⟨r,hr⟩:=List.mem_iff_getElem?.1 hrow'
   cases hrx with
   | sl hσ _ _ _=>
    obtain ⟨_,_,cs,ty,_,_,hR⟩:=hs.rows hi hσ (by rintro rfl;simp at hr)
    obtain ⟨l',hl1,hl2,_⟩:=hs.obj j _ hi
    rw [hσ] at hl1;cases hl1
    rw [← hl2];exact hR.wide r row hr
  ·exact hx.elim
 have hyw : ∀ row ∈ ys,row.length = ei.size:=fun row hrow=>(hcell row hrow).1
 obtain ⟨hlx,xa,hfx,hxs,hxR⟩:=src_run (P:=P) hs hx hrx hxw
 obtain ⟨hly,ya,hfy,hys,hyR⟩:=src_run (P:=P) hs hy hry hyw
 have hs1 : SR C pub σ s w.drew:=hs.drawn rfl rfl rfl rfl
 obtain ⟨_,xa1,hfx1,hxs1,hxR1⟩:=src_run (P:=P) hs1 hx hrx hxw
 obtain ⟨_,ya1,hfy1,hys1,hyR1⟩:=src_run (P:=P) hs1 hy hry hyw
 obtain ⟨cx,hv⟩ : ∃ cx,a.eval x = cx:=⟨_,rfl⟩
 obtain ⟨cy,hvy⟩ : ∃ cy,a.eval y = cy:=⟨_,rfl⟩
 rw [hv] at hrx hlx hfx hfx1
 rw [hvy] at hry hly hfy hfy1
 obtain ⟨aa,cap,rfl⟩ : ∃ aa cap,cx = .slice aa xs.length cap:=by
  generalize evO e x = px at hx hdst hrx
  cases hrx <;> simp [isDst] at hdst
  ·simp [WSrc] at hx;subst hx;exact ⟨none,0,rfl⟩
  ·rename_i off len l a' cap _ _ _ _
   obtain ⟨rs,hi,hb,rfl⟩:=hx
   exact ⟨a',cap,by simp;omega⟩
 have hexec : (execOp a.eval o).run P w = ((Builtin.append_ #[T,T2] o.type #[.slice aa xs.length cap,cy]).run P w).andThen fun v w'=>.ok (.value v) w':=by
  simp [execOp,ho,resolve,invoke,builtin,hv,hvy]
 by_cases hc : xs.length + ys.length ≤ cap
 ·have hplace := run_append_place (ty := o.type) (a := aa) (len := xs.length) h2 hei hd2 hd hly hfy hc
  have hone : ∀ v ∈ ya.toList,v.oneCell' = true:=by
   intro v hv'
   obtain ⟨q,hq⟩:=List.mem_iff_getElem?.1 hv'
   rw [Array.getElem?_toList] at hq
   have hql : q < ys.length * ei.size:=by
    rcases Nat.lt_or_ge q ya.size with h | h
    ·omega
    ·simp [Array.getElem?_eq_none h] at hq
   have hr' : q / ei.size < ys.length:=(Nat.div_lt_iff_lt_mul (by omega)).2 hql
   have hj' : q % ei.size < ei.size:=Nat.mod_lt _ (by omega)
   have hrow : ys[q / ei.size]? = some ys[q / ei.size]:=List.getElem?_eq_getElem hr'
   have hc':=hcell _ (List.getElem_mem hr')
   have hjr : ys[q / ei.size][q % ei.size]? = some (ys[q / ei.size][q % ei.size]'(by omega)):=List.getElem?_eq_getElem (by omega)
   refine isCell_rel (List.all_eq_true.1 hc'.2 _ (List.getElem_mem (by omega : q % ei.size < ys[q / ei.size].length))) (hyR.rel _ _ _ _ v hrow hjr ?_)
   rw [← hq,Nat.zero_add,Nat.mul_comm,Nat.div_add_mod]
  by_cases hcap0 : cap = 0
  ·have hx0 : xs = [] := List.length_eq_zero_iff.1 (by omega)
   have hy0 : ys = []:=List.length_eq_zero_iff.1 (by omega)
   have hya0 : ya.toList = []:=by
    have : ya.size = 0:=by rw [hys,hy0];simp
    simpa using this
   have hrun : (execOp a.eval o).run P w = .ok (.value (.slice aa (xs.length + ys.length) cap)) w:=by
    rw [hexec,hplace,hya0]
    cases aa <;> simp [storeCells]
   have hvoid:=hs.void 0 0 ei.size
   have hfin : SR C pub (σ.add s.length ⟨0,0,ei.size,0⟩) (killP s (evO e x) ++ [.rows ei.size (xs ++ ys)]) w:=by
    rw [hx0,hy0]
    generalize evO e x = px at hx hdst
    cases px <;> simp [isDst] at hdst
    ·exact hvoid
    ·rename_i i off len
     have hd3:=hvoid.drop i
     obtain ⟨rs,hi,_⟩:=hx
     rw [List.set_append_left _ _ (lt_of_getElem? hi)] at hd3
     exact hd3
   exact wp_value hrun (hnext _ _ _ pub _ _ hkk hfin (he.mono PHeap.le.rfl' (hs.toBase.le_add _)) (.sl (Sig.add_same _ _ _) hc (by omega) (fun h=>by omega)))
  ·generalize evO e x = px at hx hdst hrx hkk
   generalize hcx : Value.slice aa xs.length cap = cxx at hrx
   cases hrx
   case nilsl=>simp at hcx;exact absurd hcx.2.2 hcap0
   case sl i off len l a' cap' hlen hcapm ha hσ=>
    simp only [Value.slice.injEq] at hcx
    obtain ⟨rfl,rfl,rfl⟩:=hcx
    obtain ⟨rfl,hfit⟩:=ha (by omega)
    obtain ⟨rs,hi,hb,hxs'⟩:=hx
    obtain ⟨l₀,hl1,hl2,hl3,hl4⟩:=hs.obj i _ hi
    rw [hσ] at hl1;cases hl1
    obtain ⟨hpub,cs,ty,hbk,hsz,hR⟩:=hl4 (by omega)
    have hmul : off * l.esz + cap * l.esz ≤ l.n * l.esz:=by rw [← Nat.add_mul];exact Nat.mul_le_mul_right _ hfit
    have hmul2 : xs.length * l.esz + ys.length * l.esz ≤ cap * l.esz:=by rw [← Nat.add_mul];exact Nat.mul_le_mul_right _ hc
    have hxrel : RowsIn (Rel pub σ) xs cs (l.o + off * l.esz) l.esz:=by
     refine ⟨fun r row hr=>hl2 ▸ hxw row (List.mem_of_getElem? hr),fun r row j v c hr hj hc'=>?_⟩
     rw [hxs',List.getElem?_take] at hr
     split at hr
     ·rw [List.getElem?_drop] at hr
      refine hR.rel (off + r) row j v c hr hj ?_
      rw [Nat.add_mul,← hc'];congr 1;omega
     ·cases hr
    have hre:=hs.rehome i _ l ⟨l.b,l.o + off * l.esz,l.esz,cap⟩ hi (by simp) hσ (by omega) rfl (.rows ei.size xs)
     ⟨_,Sig.add_same _ _ _,hl2,by simp;omega,fun _=>⟨hpub,cs,ty,hbk,by simp;omega,hxrel.up (hs.toBase.le_add _)⟩⟩
    have hlenS : (s.set i .dead).length = s.length:=by simp
    have hget : (s.set i .dead ++ [.rows ei.size xs])[s.length]? = some (.rows ei.size xs):=by
     rw [List.getElem?_append_right (by simp)];simp
    have hstore:=run_storeCells (P:=P) ya.toList (w:=w) (b:=l.b) (o:=l.o + off * l.esz + xs.length * l.esz) 0 hbk (by simp only [Array.length_toList,hys,← hl2];omega) hone
    rw [Nat.add_zero] at hstore
    have hlb : l.b < w.heap.size:=(ObjOK.alive hs.obj ⟨_,hi,by simp,hσ,by omega⟩).2
    have hwr:=hre.write hget (by simp) (Sig.add_same _ _ _) (by simp;omega) (.rows ei.size (xs ++ ys)) (.cells (spliceA cs (l.o + off * l.esz + xs.length * l.esz) ya.toList) ty (0,0)) (by simp)
     ⟨_,Sig.add_same _ _ _,hl2,by simp;omega,fun _=>⟨hpub,spliceA cs (l.o + off * l.esz + xs.length * l.esz) ya.toList,ty,by simp [Array.getElem?_setIfInBounds,hlb],by rw [spliceA_size];simp;omega,?_⟩⟩
    ·rw [List.set_append_right _ _ (by simp)] at hwr
     simp only [hlenS,Nat.sub_self,List.set_cons_zero] at hwr
     refine wp_value (w':=_) ?_ (hnext _ _ _ pub _ _ hkk hwr (he.mono PHeap.le.rfl' (hs.toBase.le_add _)) (.sl (a:=some ⟨l.b,l.o + off * l.esz,none⟩) (Sig.add_same _ _ _) hc (by omega) (fun _=>⟨by simp,by simp⟩)))
     rw [hexec,hplace]
     simp only [Addr.add_at,← hl2,hstore,Result.andThen_ok]
    ·have hxl : ya.toList.length = ys.length * l.esz := by simp [hys,hl2]
     refine ⟨fun r row hr=>?_,fun r row j v c hr hj hc'=>?_⟩
     ·rw [List.getElem?_append] at hr
      split at hr
      ·exact hl2 ▸ hxw row (List.mem_of_getElem? hr)
      ·exact hl2 ▸ hyw row (List.mem_of_getElem? hr)
     ·have hjl := lt_of_getElem? hj
      simp only at hc'
      rw [spliceA_get _ _ _ _ (by rw [hxl];omega),hxl] at hc'
      rw [List.getElem?_append] at hr
      split at hr
      ·rename_i hlt
       rw [hxw row (List.mem_of_getElem? hr),← hl2] at hjl
       have hf:=row_fits (esz:=l.esz) hlt (Nat.le_refl _)
       rw [if_neg (by omega)] at hc'
       exact (hxrel.rel r row j v c hr hj hc').up (hs.toBase.le_add _)
      ·rename_i hge
       rw [hyw row (List.mem_of_getElem? hr),← hl2] at hjl
       have hrl:=lt_of_getElem? hr
       have hf:=row_fits (esz:=l.esz) hrl (Nat.le_refl _)
       have h9 : r * l.esz = xs.length * l.esz + (r - xs.length) * l.esz:=by rw [← Nat.add_mul];congr 1;omega
       rw [if_pos (by omega),Array.getElem?_toList] at hc'
       refine (hyR.rel (r - xs.length) row j v c hr hj ?_).up (hs.toBase.le_add _)
       rw [← hc',← hl2];congr 1;omega
   all_goals simp [isDst] at hdst
 ·obtain ⟨nc,hn1,hn2,hrun⟩ := run_append_grow (ty := o.type) h2 hei hzv hd2 hd hly hfy1 hfx1 hc hby hroom
  have hle1:=hs1.toBase.le_add ⟨w.heap.size,0,ei.size,nc⟩
  have hnew:=new_rows hs1 (xa1 ++ ya1 ++ Builtin.zeroCells zv.cells (nc - (xs.length + ys.length))) el ei.size nc (xs ++ ys) (by simp;omega)
   (by simp only [Array.size_append,hxs1,hys1,size_zeroCells,hzs];rw [← Nat.add_mul,← Nat.add_mul];exact Nat.mul_le_mul_right _ (by omega)) (hxR1.append hyR1 hxs1 _ hys1)
  have hfin : SR C pub (σ.add s.length ⟨w.heap.size,0,ei.size,nc⟩) (killP s (evO e x) ++ [.rows ei.size (xs ++ ys)]) (w.drew.alloc (.cells (xa1 ++ ya1 ++ Builtin.zeroCells zv.cells (nc - (xs.length + ys.length))) el)):=by
   generalize evO e x = px at hx hdst
   cases px <;> simp [isDst] at hdst
   ·exact hnew
   ·rename_i i off len
    have hd3:=hnew.drop i
    obtain ⟨rs,hi,_⟩:=hx
    rw [List.set_append_left _ _ (lt_of_getElem? hi)] at hd3
    exact hd3
  exact wp_value (by rw [hexec,hrun];rfl) (hnext _ _ _ pub _ _ hkk hfin (he.mono PHeap.le.rfl' hle1) (sl_new hn1 (Nat.le_refl _) hn2))
def WAppendC (ti : TI) (s : Store) (esz : Nat) (xs : List (List PV)) (y : PV) (k : PV → Store → Prop) : Prop:=
 ∃ e by' ag z ys,ti.kind = .slice e esz by' ag (some z) ∧ z.length = esz ∧ esz ≠ 0 ∧ by' ≠ 0 ∧ WSrc s esz y ys ∧ ys ≠ [] ∧ (∀ row ∈ ys,row.length = esz ∧ row.all isCell = true) ∧
  (xs.length + ys.length) * by' ≤ 140737488355328 ∧ k (.sl s.length 0 (xs.length + ys.length)) (s ++ [.rows esz (xs ++ ys)])
theorem ok_appendC {x y : Operand} {T T2 : TypeId} {ti ti2 : TI} {esz : Nat} {xs : List (List PV)} (ho : o.op = .call { callee := .builtin .append,args := #[x,y],argTypes := #[T,T2] }) (ht : tinfo P T = some ti) (ht2 : tinfo P T2 = some ti2) (hk2 : ∀ kd,ti2.kind ≠ .int kd)
  (hxe : evO e x = .clip esz xs) (h : WAppendC ti s esz xs (evO e y) k) : OpOK P N o e s k:=by
 intro C pub σ a w next Q hs he hnext
 obtain ⟨i,d,h1,h2,rfl⟩:=tinfo_some ht
 obtain ⟨i2,d2,_,hd2,rfl⟩:=tinfo_some ht2
 have hd : ∀ kd,d2 ≠ .int kd:=by rintro kd rfl;exact hk2 kd rfl
 obtain ⟨el,by',ag,z,ys,hk,hzl,hez,hby,hy,hne,hcell,hroom,hkk⟩:=h
 obtain ⟨rfl,ei,hei,rfl,rfl,_,hz⟩:=tkOf_slice hk
 have hrx:=evO_rel he x
 have hry:=evO_rel he y
 obtain ⟨zv,hzv,hzr⟩:=zero_relA (pub:=pub) (σ:=σ) hei hz
 have hzs : zv.cells.size = ei.size:=by rw [← hzl,hzr.1]
 obtain ⟨cx,hv⟩ : ∃ cx,a.eval x = cx:=⟨_,rfl⟩
 obtain ⟨cy,hvy⟩ : ∃ cy,a.eval y = cy:=⟨_,rfl⟩
 rw [hxe,hv] at hrx
 cases hrx with
 | clip hxw hrl=>
  rename_i aa n
  have hrl:=hrl.up (noSig_le σ)
  obtain rfl : n = xs.length:=by cases hrl <;> rfl
  have hyw : ∀ row ∈ ys,row.length = ei.size:=fun row hrow=>(hcell row hrow).1
  have hwx : WSrc s ei.size (.list xs) xs:=rfl
  obtain ⟨hly,_,_,_,_⟩:=src_run (P:=P) hs hy hry hyw
  have hs1 : SR C pub σ s w.drew:=hs.drawn rfl rfl rfl rfl
  obtain ⟨_,xa1,hfx1,hxs1,hxR1⟩:=src_run (P:=P) hs1 hwx hrl hxw
  obtain ⟨_,ya1,hfy1,hys1,hyR1⟩:=src_run (P:=P) hs1 hy hry hyw
  rw [hvy] at hly hfy1
  have hyp : 0 < ys.length:=List.length_pos_iff.2 hne
  have hexec : (execOp a.eval o).run P w = ((Builtin.append_ #[T,T2] o.type #[.slice aa xs.length xs.length,cy]).run P w).andThen fun v w'=>.ok (.value v) w':=by
   simp [execOp,ho,resolve,invoke,builtin,hv,hvy]
  obtain ⟨nc,hn1,hn2,hrun⟩:=run_append_grow (ty:=o.type) h2 hei hzv hd2 hd hly hfy1 hfx1 (by omega) hby hroom
  have hle1:=hs1.toBase.le_add ⟨w.heap.size,0,ei.size,nc⟩
  have hnew:=new_rows hs1 (xa1 ++ ya1 ++ Builtin.zeroCells zv.cells (nc - (xs.length + ys.length))) el ei.size nc (xs ++ ys) (by simp;omega)
   (by simp only [Array.size_append,hxs1,hys1,size_zeroCells,hzs];rw [← Nat.add_mul,← Nat.add_mul];exact Nat.mul_le_mul_right _ (by omega)) (hxR1.append hyR1 hxs1 _ hys1)
  exact wp_value (by rw [hexec,hrun];rfl) (hnext _ _ _ pub _ _ hkk hnew (he.mono PHeap.le.rfl' hle1) (sl_new hn1 (Nat.le_refl _) hn2))
def WAppN (ti : TI) (s : Store) (x y : PV) (k : PV → Store → Prop) : Prop:=
 ∃ e esz by' ag z n,ti.kind = .slice e esz by' ag (some z) ∧ z.length = esz ∧ esz ≠ 0 ∧ by' ≠ 0 ∧ x = .nilsl ∧ y = .int .i64 n ∧ 0 ≤ n ∧ n * (by' : Int) ≤ 140737488355328 ∧ k (.sl s.length 0 n.toNat) (s ++ [.rows esz (List.replicate n.toNat z)])
theorem ok_appendN {x y : Operand} {T T2 : TypeId} {ti ti2 : TI} {kd : IntKind} (ho : o.op = .call { callee := .builtin .append, args := #[x, y], argTypes := #[T, T2] }) (ht : tinfo P T = some ti) (ht2 : tinfo P T2 = some ti2) (hk2 : ti2.kind = .int kd)
    (h : WAppN ti s (evO e x) (evO e y) k) : OpOK P N o e s k:=by
  intro C pub σ a w next Q hs he hnext
  obtain ⟨i, d, h1, h2, rfl⟩:=tinfo_some ht
  obtain ⟨i2, d2, _, hd2, rfl⟩:=tinfo_some ht2
  obtain rfl:=tkOf_int hk2
  obtain ⟨el, esz, by', ag, z, n, hk, hzl, hez, hby, hx, hy, h0, hroom, hkk⟩:=h
  obtain ⟨rfl, ei, hei, rfl, rfl, _, hz⟩:=tkOf_slice hk
  have hrx:=evO_rel he x
  have hry:=evO_rel he y
  obtain ⟨zv, hzv, hzr⟩:=zero_relA (pub:=pub) (σ:=σ) hei hz
  have hzs : zv.cells.size = ei.size:=by rw [← hzl, hzr.1]
  obtain ⟨cx, hv⟩ : ∃ cx, a.eval x = cx:=⟨_, rfl⟩
  obtain ⟨cy, hvy⟩ : ∃ cy, a.eval y = cy:=⟨_, rfl⟩
  rw [hx, hv] at hrx
  rw [hy, hvy] at hry
  cases hrx;cases hry
  have hn1 : n ≤ n * (ei.bytes : Int):=by
    have : (1 : Int) ≤ (ei.bytes : Int):=by omega
    calc n = n * 1:=by omega
      _ ≤ n * (ei.bytes : Int):=Int.mul_le_mul_of_nonneg_left this h0
  have w1:=wrap_small h0 (by omega)
  have hl0 : ¬ n < 0:=by omega
  have hc1 : ¬ (n * (ei.bytes : Int) > 281474976710656):=by omega
  obtain ⟨m, rfl⟩ : ∃ m : Nat, n = m:=⟨n.toNat, by omega⟩
  have hm : (m : Int).toNat = m:=by omega
  have hroomN : m * ei.bytes ≤ 140737488355328:=by rw [← Int.natCast_mul] at hroom;omega
  simp only [hm] at hkk
  have hsz : ∀ c : Nat, (Builtin.zeroCells zv.cells c).size = c * ei.size:=fun c=>by rw [size_zeroCells, hzs]
  by_cases hm0 : m = 0
  · subst hm0
    have hrun : (execOp a.eval o).run P w = .ok (.value (.slice none 0 0)) w:=by
      have w0 : IntKind.i64.wrap 0 = 0:=w1
      simp [execOp, ho, resolve, invoke, builtin, hv, hvy, Builtin.append_, run_underlying' h2, run_sizeOf' hei, run_underlying' hd2, asInt, asIntOf, w0, run_typeInfo' hei]
    have hvoid:=hs.void 0 0 ei.size
    exact wp_value hrun (hnext _ _ _ pub _ _ hkk (by simpa using hvoid) (he.mono PHeap.le.rfl' (hs.toBase.le_add _)) (.sl (Sig.add_same _ _ _) (Nat.le_refl _) (Nat.zero_le _) (fun h=>by omega)))
  · have hmp : 0 < m := by omega
    have hms : ¬ m * ei.size = 0:=Nat.mul_ne_zero hm0 hez
    have hle : m ≤ m * ei.bytes:=Nat.le_mul_of_pos_right _ (by omega)
    have hcap:=growslice_fits (need:=m) (old:=0) (bytes:=ei.bytes) hmp hroomN
    have hcap' : ¬ (281474976710656 < Builtin.nextslicecap m 0 * ei.bytes):=by omega
    have h64 : ¬ (IntKind.i64.max < (m : Int)):=by
      have : IntKind.i64.max = 9223372036854775807:=by decide
      omega
    have h64' : ¬ ((9223372036854775807 : Int) < (m : Int)):=by omega
    have hq : (Question.appendCap m 0 el).forced = false:=rfl
    obtain ⟨nc, hnc⟩ : ∃ nc, (Question.appendCap m 0 el).cut (w.tape w.drawn (.appendCap m 0 el)) = nc:=⟨_, rfl⟩
    have hn1 : m ≤ nc:=by rw [← hnc];simp only [Question.cut];omega
    have hn2 : nc ≤ maxLen:=by
      rw [← hnc]
      simp only [Question.cut, maxLen]
      have:=Nat.mod_lt (w.tape w.drawn (.appendCap m 0 el)) (show 0 < 2 ^ 63 - m by omega)
      omega
    have hrun : (execOp a.eval o).run P w = .ok (.value (.slice (some ⟨w.heap.size, 0, none⟩) m nc)) (w.drew.alloc (.cells (Builtin.zeroCells zv.cells m ++ Builtin.zeroCells zv.cells (nc - m)) el)):=by
      simp [execOp, ho, resolve, invoke, builtin, hv, hvy, Builtin.append_, run_underlying' h2, run_sizeOf' hei, run_underlying' hd2, asInt, asIntOf, w1, run_typeInfo' hei, hm0, hms, hcap', h64, h64', hq, hnc, zeroValue, hzv, newRow, Builtin.firstCells, hl0, hc1]
    have hs1 : SR C pub σ s w.drew:=hs.drawn rfl rfl rfl rfl
    have hle1:=hs1.toBase.le_add ⟨w.heap.size, 0, ei.size, nc⟩
    have hz0:=zero_rows (pub:=pub) (σ:=σ) hei hzv (m:=m) (n:=m) (Nat.le_refl _) hz
    rw [hzs] at hz0
    have hR : RowsIn (Rel pub σ) (List.replicate m z) (Builtin.zeroCells zv.cells m ++ Builtin.zeroCells zv.cells (nc - m)) 0 ei.size:=by
      refine ⟨hz0.wide, fun r row j v c hr hj hc=>?_⟩
      have hrl:=lt_of_getElem? hr
      have hjl:=lt_of_getElem? hj
      rw [hz0.wide r row hr] at hjl
      simp only [List.length_replicate] at hrl
      have hf:=row_fits (esz:=ei.size) hrl (Nat.le_refl _)
      rw [Array.getElem?_append_left (by rw [hsz];omega)] at hc
      refine hz0.rel r row j v c hr hj ?_
      rw [← hc];unfold Builtin.zeroCells;rw [hzs]
    have hnew:=new_rows hs1 (Builtin.zeroCells zv.cells m ++ Builtin.zeroCells zv.cells (nc - m)) el ei.size nc (List.replicate m z) (by simp;omega)
      (by simp only [Array.size_append, hsz];rw [← Nat.add_mul];exact Nat.mul_le_mul_right _ (by omega)) hR
    exact wp_value hrun (hnext _ _ _ pub _ _ hkk hnew (he.mono PHeap.le.rfl' hle1) (sl_new hn1 (Nat.le_refl _) hn2))
theorem ok_cap0 {x : Operand} {T : TypeId} {ti : TI} {el esz by' : Nat} {ag : Bool} {z : Option (List PV)} (ho : o.op = .call { callee := .builtin .cap,args := #[x],argTypes := #[T] }) (ht : tinfo P T = some ti) (hk : ti.kind = .slice el esz by' ag z) (hx : evO e x = .nilsl)
  (h : k (.int .i64 0) s) : ReadOK P N o e s k:=
 fun C pub σ a w hs he=>by
  obtain ⟨i,d,h1,h2,rfl⟩:=tinfo_some ht
  obtain ⟨rfl,_⟩:=tkOf_slice hk
  have hr:=evO_rel he x
  obtain ⟨cx,hv⟩ : ∃ cx,a.eval x = cx:=⟨_,rfl⟩
  rw [hx,hv] at hr
  cases hr
  refine ⟨_,.int .i64 0,h,.int,?_⟩
  simp [execOp,ho,resolve,invoke,builtin,hv,Builtin.cap_,run_underlying' h2,goInt]
def WApp (ti : TI) (s : Store) (x y : PV) (k : PV → Store → Prop) : Prop:=match x with
 | .clip z xs=>WAppendC ti s z xs y k
 | _=>WAppend ti s x y k
theorem ok_app {x y : Operand} {T T2 : TypeId} {ti ti2 : TI} (ho : o.op = .call { callee := .builtin .append,args := #[x,y],argTypes := #[T,T2] }) (ht : tinfo P T = some ti) (ht2 : tinfo P T2 = some ti2) (hk2 : ∀ kd,ti2.kind ≠ .int kd)
  (h : WApp ti s (evO e x) (evO e y) k) : OpOK P N o e s k:=by
 unfold WApp at h
 split at h
 ·rename_i hx;exact ok_appendC ho ht ht2 hk2 hx h
 ·exact ok_append ho ht ht2 hk2 h
end
end Go.Pv
namespace Go.Pv
open Go Go.RowKit
set_option linter.unusedVariables false
set_option linter.unusedSimpArgs false
section
variable {P : Program} {N : FrN} {o : Oper} {e : Env} {s : Store} {k : PV → Store → Prop}
def putRows (rows ys : List (List PV)) (off : Nat) : List (List PV):=rows.take off ++ ys ++ rows.drop (off + ys.length)
theorem putRows_length {rows ys : List (List PV)} {off : Nat} (h : off + ys.length ≤ rows.length) : (putRows rows ys off).length = rows.length:=by simp [putRows];omega
theorem putRows_get {rows ys : List (List PV)} {off j : Nat} (h : off + ys.length ≤ rows.length) : (putRows rows ys off)[j]? = if off ≤ j ∧ j < off + ys.length then ys[j - off]? else rows[j]?:=by
 unfold putRows
 rw [List.append_assoc]
 rcases Nat.lt_or_ge j off with h1 | h1
 ·rw [if_neg (by omega),List.getElem?_append_left (by simp;omega),List.getElem?_take,if_pos h1]
 ·rw [List.getElem?_append_right (by simp; omega)]
  have ht : (rows.take off).length = off:=by simp;omega
  rw [ht]
  by_cases h2 : j < off + ys.length
  ·rw [if_pos ⟨h1,h2⟩,List.getElem?_append_left (by omega)]
  ·rw [if_neg (by omega),List.getElem?_append_right (by omega),List.getElem?_drop]
   congr 1;omega
theorem SR.putRows {C : Ctx} {pub : PHeap} {σ : Sig} {w : World} (hs : SR C pub σ s w) {i z off : Nat} {l : Loc} {rows ys : List (List PV)} {ca : Array Value} {ty : TypeId} {vs : List Value}
  (hi : s[i]? = some (.rows z rows)) (hσ : σ i = some l) (hn : 0 < l.n) (hb : w.heap[l.b]? = some (.cells ca ty (0,0))) (hsz : l.o + l.n * l.esz ≤ ca.size) (hfit : off + ys.length ≤ rows.length)
  (hR : RowsIn (Rel pub σ) rows ca l.o l.esz) (hlen : vs.length = ys.length * l.esz) (hY : RowsIn (Rel pub σ) ys vs.toArray 0 l.esz) :
  SR C pub σ (s.set i (.rows z (Pv.putRows rows ys off))) { w with heap:=w.heap.setIfInBounds l.b (.cells (spliceA ca (l.o + off * l.esz) vs) ty (0,0)) }:=by
 obtain ⟨l',h1,hz,hle,_⟩:=hs.obj i _ hi
 rw [hσ] at h1;cases h1
 have hlt : off * l.esz + ys.length * l.esz ≤ l.n * l.esz:=by rw [← Nat.add_mul];exact Nat.mul_le_mul_right _ (by omega)
 refine hs.write hi (by simp) hσ hn (.rows z (Pv.putRows rows ys off)) (.cells (spliceA ca (l.o + off * l.esz) vs) ty (0,0)) (by simp) ?_
 refine ⟨l,hσ,hz,by rw [putRows_length hfit];exact hle,fun _=>⟨(ObjOK.alive hs.obj ⟨_,hi,by simp,hσ,hn⟩).1,spliceA ca (l.o + off * l.esz) vs,ty,?_,?_,?_,?_⟩⟩
 ·have hlb := (ObjOK.alive hs.obj ⟨_,hi,by simp,hσ,hn⟩).2
  simp [Array.getElem?_setIfInBounds,hlb]
 ·rw [spliceA_size];exact hsz
 ·intro r row hr
  rw [putRows_get hfit] at hr
  split at hr
  ·exact hY.wide _ row hr
  ·exact hR.wide r row hr
 ·intro r row j v c hr hj hc
  have hrl : r < rows.length:=by
   have:=lt_of_getElem? hr
   rw [putRows_length hfit] at this;exact this
  rw [spliceA_get _ _ _ _ (by omega)] at hc
  rw [putRows_get hfit] at hr
  by_cases hin : off ≤ r ∧ r < off + ys.length
  ·rw [if_pos hin] at hr
   have hwd:=hY.wide _ row hr
   have hjl:=lt_of_getElem? hj
   obtain ⟨q,hq⟩ : ∃ q,r = off + q:=⟨r - off,by omega⟩
   subst hq
   have hq2 : off + q - off = q:=by omega
   rw [hq2] at hr
   have hql : q < ys.length:=by omega
   have h3 : (q + 1) * l.esz ≤ ys.length * l.esz:=Nat.mul_le_mul_right _ hql
   rw [Nat.add_mul] at h3
   rw [Nat.add_mul] at hc
   rw [if_pos (by omega)] at hc
   refine hY.rel q row j v c hr hj ?_
   rw [← hc]
   simp only [List.getElem?_toArray]
   congr 1;omega
  ·rw [if_neg hin] at hr
   have hwd:=hR.wide r row hr
   have hjl:=lt_of_getElem? hj
   rw [if_neg ?_] at hc
   ·exact hR.rel r row j v c hr hj hc
   ·rcases Nat.lt_or_ge r off with h | h
    ·have : (r + 1) * l.esz ≤ off * l.esz := Nat.mul_le_mul_right _ h
     rw [Nat.add_mul] at this;omega
    ·have : (off + ys.length) * l.esz ≤ r * l.esz := Nat.mul_le_mul_right _ (by omega)
     rw [Nat.add_mul] at this;omega
def WClear (ti : TI) (s : Store) (x : PV) (k : Store → Prop) : Prop:=
 ∃ e esz by' ag z,ti.kind = .slice e esz by' ag (some z) ∧ z.length = esz ∧ z.all isCell = true ∧ match x with
 | .nilsl=>k s
 | .sl i off len=>∃ rows,s[i]? = some (.rows esz rows) ∧ off + len ≤ rows.length ∧ k (s.set i (.rows esz (putRows rows (List.replicate len z) off)))
 | _=>False
theorem ok_clear {x : Operand} {T : TypeId} {ti : TI} (ho : o.op = .call { callee:=.builtin .clear,args:=#[x],argTypes:=#[T] }) (ht : tinfo P T = some ti) (h : WClear ti s (evO e x) fun s'=>k (.tuple []) s') : OpOK P N o e s k:=by
 intro C pub σ a w next Q hs he hnext
 obtain ⟨ix,d,h1,h2,rfl⟩:=tinfo_some ht
 obtain ⟨el,esz,by',ag,z,hkind,hzl,hzc,h⟩:=h
 obtain ⟨rfl,ei,hei,rfl,rfl,_,hzz⟩:=tkOf_slice hkind
 have hr:=evO_rel he x
 have htup : ∀ (pub : PHeap) (σ : Sig),Rel pub σ (.tuple []) (.tuple #[]):=fun _ _=>.tuple rfl fun j v c h=>by simp at h
 generalize hv : a.eval x = cv at hr
 split at h
 ·rename_i heq
  rw [heq] at hr
  cases hr
  refine wp_value (w':=w) ?_ (hnext _ _ _ pub σ _ h hs he (htup _ _))
  simp [execOp,ho,hv,resolve,invoke,builtin,Builtin.clear_,run_underlying' h2]
 ·rename_i i off len heq
  rw [heq] at hr
  obtain ⟨rows,hi,hfit,hk⟩:=h
  cases hr with
  | sl hσ hlen hcap ha=>
   rename_i l ad cap
   by_cases h0 : len = 0
   ·subst h0
    have hsame : putRows rows (List.replicate 0 z) off = rows:=by simp [putRows]
    rw [hsame] at hk
    have hset : s.set i (.rows ei.size rows) = s:=by
     apply List.ext_getElem?
     intro j
     rw [List.getElem?_set]
     split
     ·subst_vars; split
      ·exact hi.symm
      ·rename_i hh;rw [List.getElem?_eq_none (by omega)]
     ·rfl
    rw [hset] at hk
    refine wp_value (w':=w) ?_ (hnext _ _ _ pub σ _ hk hs he (htup _ _))
    cases ad <;> simp [execOp,ho,hv,resolve,invoke,builtin,Builtin.clear_,run_underlying' h2]
   ·obtain ⟨rfl,hn⟩ := ha (by omega)
    obtain ⟨hn',hle,ca,ty,hb,hsz,hR⟩:=hs.rows hi hσ (by rintro rfl;simp at hfit;omega)
    obtain ⟨l',hl1,hl2,_⟩:=hs.obj i _ hi
    rw [hσ] at hl1;cases hl1
    obtain ⟨zv,hzv,hzr⟩:=zero_relA (pub:=pub) (σ:=σ) hei hzz
    have hzs : zv.cells.size = l.esz:=by rw [hzr.1,hzl,hl2]
    obtain ⟨vs,hvs⟩ : ∃ vs,vs = (Builtin.zeroCells zv.cells len).toList:=⟨_,rfl⟩
    have hvl : vs.length = len * l.esz:=by rw [hvs];simp [Builtin.zeroCells,hzs]
    have hvg : ∀ j,j < len * l.esz → vs[j]? = zv.cells[j % l.esz]?:=by
     intro j hj
     rw [hvs]
     have hz0 : 0 < l.esz:=by rcases Nat.eq_zero_or_pos l.esz with h | h;rw [h] at hj;simp at hj;exact h
     have hmod : j % l.esz < zv.cells.size:=by rw [hzs];exact Nat.mod_lt _ hz0
     simp only [Builtin.zeroCells,hzs,Array.getElem?_toList]
     rw [Array.getElem?_map,Array.getElem?_range]
     rw [if_pos hj]
     simp [getElem!_pos zv.cells (j % l.esz) hmod,Array.getElem?_eq_getElem hmod]
    have hY : RowsIn (Rel pub σ) (List.replicate len z) vs.toArray 0 l.esz:=by
     refine ⟨fun r row hr=>?_,fun r row j v c hr hj hc=>?_⟩
     ·obtain ⟨_,rfl⟩:=List.mem_replicate.1 (List.mem_of_getElem? hr);rw [hzl,hl2]
     ·have hrl := lt_of_getElem? hr
      rw [List.length_replicate] at hrl
      obtain ⟨_,rfl⟩:=List.mem_replicate.1 (List.mem_of_getElem? hr)
      have hjl:=lt_of_getElem? hj
      have hlt : r * l.esz + j < len * l.esz:=by
       have : (r + 1) * l.esz ≤ len * l.esz:=Nat.mul_le_mul_right _ hrl
       rw [Nat.add_mul] at this;omega
      rw [List.getElem?_toArray,Nat.zero_add,hvg _ hlt,mod_place (by omega)] at hc
      exact hzr.2 j v c hj hc
    have hone : ∀ v ∈ vs,v.oneCell' = true:=by
     intro v hvm
     obtain ⟨j,hj⟩:=List.mem_iff_getElem?.1 hvm
     have hjl:=lt_of_getElem? hj
     rw [hvl] at hjl
     rw [hvg j hjl] at hj
     have hz0 : 0 < l.esz:=by rcases Nat.eq_zero_or_pos l.esz with h | h;rw [h] at hjl;simp at hjl;exact h
     have hm : j % l.esz < z.length:=by rw [hzl,← hl2];exact Nat.mod_lt _ hz0
     exact isCell_rel (List.all_eq_true.1 hzc _ (List.getElem_mem hm)) (hzr.2 _ _ _ (List.getElem?_eq_getElem hm) hj)
    have hlt2 : off * l.esz + len * l.esz ≤ l.n * l.esz:=by rw [← Nat.add_mul];exact Nat.mul_le_mul_right _ (by omega)
    have hrun:=run_storeCells (P:=P) vs (w:=w) (b:=l.b) (o:=l.o + off * l.esz) (cs:=ca) (ty:=ty) 0 hb (by omega) hone
    refine wp_value (w':=_) ?_ (hnext _ _ _ pub σ _ hk (hs.putRows (vs:=vs) hi hσ hn' hb hsz (by rw [List.length_replicate];exact hfit) hR (by rw [List.length_replicate];exact hvl) hY) he (htup _ _))
    have hlen0 : len ≠ 0:=h0
    obtain ⟨len',rfl⟩ : ∃ q,len = q + 1:=⟨len - 1,by omega⟩
    simp [execOp,ho,hv,resolve,invoke,builtin,Builtin.clear_,run_underlying' h2,zeroValue,run_typeInfo' hei,hzv,← hvs,hrun]
 ·exact h.elim
end
end Go.Pv
namespace Go.Pv
open Go Go.RowKit
set_option linter.unusedVariables false
set_option linter.unusedSimpArgs false
def keyEq : PV → PV → Option Bool
 | .int k a,.int k' b=>if k = k' then some (a == b) else none
 | .str a,.str b=>some (decide (a = b))
 | .bool a,.bool b=>some (a == b)
 | _,_=>none
def findP (k : PV) : List (PV × PV) → Nat → Option (Option (Nat × PV))
 | [],_=>some none
 | (k',v) :: r,i=>match keyEq k k' with
  | some true=>some (some (i,v))
  | some false=>findP k r (i + 1)
  | none=>none
def entsP (s : Store) : PV → Option (List (PV × PV))
 | .nilmap=>some []
 | .imap es=>some es
 | .mapv i=>match s[i]? with
  | some (.map es)=>some es
  | _=>none
 | _=>none
def keyKind : TK → PV → Bool
 | .int _,.int _ _=>true
 | .string,.str _=>true
 | .bool,.bool _=>true
 | _,_=>false
def zvOf (P : Program) (T : TypeId) : Option PV:=((P.info? T).bind (·.zero)).map (ofConst 4)
def WLookup (P : Program) (kti : TI) (et : TypeId) (s : Store) (m x : PV) (k : PV → Bool → Prop) : Prop:=
 ∃ es r,entsP s m = some es ∧ keyKind kti.kind x = true ∧ findP x es 0 = some r ∧ match r with
  | some (_,v)=>k v true
  | none=>∃ z,zvOf P et = some z ∧ k z false
def putP (x v : PV) (es : List (PV × PV)) : Option (Nat × PV) → List (PV × PV)
 | some (j,_)=>es.set j (x,v)
 | none=>es ++ [(x,v)]
def WMapUpdate (kti : TI) (s : Store) (m x v : PV) (k : Store → Prop) : Prop:=
 ∃ i es r,m = .mapv i ∧ s[i]? = some (.map es) ∧ keyKind kti.kind x = true ∧ findP x es 0 = some r ∧ k (s.set i (.map (putP x v es r)))
def notNil : PV → Bool
 | .ptr _ _ _=>true
 | .iptr _=>true
 | _=>false
section
variable {P : Program} {N : FrN} {m : Nat} {e : Env} {s : Store} {o : Oper} {k : PV → Store → Prop} {pub : PHeap} {σ : Sig} {w : World}
theorem keyEq_now {d : TypeDesc} {kti : TI} (hkd : tkOf P d = kti.kind) {x y : PV} {cx cy : Value} {b : Bool} (hk : keyKind kti.kind x = true) (h : keyEq x y = some b) (hx : Rel pub σ x cx) (hy : Rel pub σ y cy) :
  Instr.sameNow d cx cy = some b:=by
 cases x <;> cases y <;> simp only [keyEq] at h <;> first | (cases h;done) | skip
 all_goals (cases hx;cases hy)
 ·split at h
  ·rename_i hkk
   cases h
   subst hkk
   rw [← hkd] at hk
   obtain ⟨k',hd⟩ : ∃ k',tkOf P d = .int k':=by
    revert hk;generalize tkOf P d = q;intro hk;cases q <;> simp [keyKind] at hk;exact ⟨_,rfl⟩
   obtain rfl:=tkOf_int hd
   simp [Instr.sameNow]
  ·cases h
 ·cases h
  rw [← hkd] at hk
  have hd : tkOf P d = .bool:=by revert hk;generalize tkOf P d = q;intro hk;cases q <;> simp [keyKind] at hk;rfl
  obtain rfl:=tkOf_bool hd
  simp [Instr.sameNow]
 ·cases h
  rw [← hkd] at hk
  have hd : tkOf P d = .string:=by revert hk;generalize tkOf P d = q;intro hk;cases q <;> simp [keyKind] at hk;rfl
  obtain rfl:=tkOf_string hd
  simp only [Instr.sameNow,Option.some.injEq]
  rw [beq_toListBytes,str_beq]
theorem findP_now {d : TypeDesc} {kti : TI} (hkd : tkOf P d = kti.kind) {x : PV} {cx : Value} (hk : keyKind kti.kind x = true) (hx : Rel pub σ x cx) : ∀ (es : List (PV × PV)) (xs : List MapEntry) (i : Nat) (r : Option (Nat × PV)),
  xs.length = es.length → (∀ (j : Nat) (k v : PV) (e : MapEntry),es[j]? = some (k,v) → xs[j]? = some e → Rel pub σ k e.key ∧ Rel pub σ v e.val) → findP x es i = some r →
  ∃ r',Instr.findNow d cx xs i = some r' ∧ ((r = none ∧ r' = none) ∨ ∃ j v cv key,r = some (j + i,v) ∧ r' = some (j + i,cv) ∧ Rel pub σ v cv ∧ es[j]? = some (key,v) ∧ keyEq x key = some true)
 | [],[],i,r,hl,hr,hf=>by cases hf;exact ⟨none,rfl,.inl ⟨rfl,rfl⟩⟩
 | (k',v) :: es,e :: xs,i,r,hl,hr,hf=>by
  have h0:=hr 0 k' v e rfl rfl
  unfold findP at hf
  split at hf
  ·rename_i hq
   cases hf
   refine ⟨some (i,e.val),?_,.inr ⟨0,v,e.val,k',by simp,by simp,h0.2,rfl,hq⟩⟩
   simp [Instr.findNow,keyEq_now hkd hk hq hx h0.1]
  ·rename_i hq
   obtain ⟨r',h1,h2⟩:=findP_now hkd hk hx es xs (i + 1) r (by simpa using hl) (fun j k v e a b=>hr (j + 1) k v e (by simpa using a) (by simpa using b)) hf
   refine ⟨r',by simp [Instr.findNow,keyEq_now hkd hk hq hx h0.1,h1],?_⟩
   rcases h2 with h2 | ⟨j,v',cv,key,h3,h4,h5,h6,h7⟩
   ·exact .inl h2
   ·exact .inr ⟨j + 1,v',cv,key,by rw [h3];congr 2;omega,by rw [h4];congr 2;omega,h5,by simpa using h6,h7⟩
  ·cases hf
theorem run_checkKey {T : TypeId} {d : TypeDesc} {kti : TI} (hT : P.underlying T = some d) (hkd : tkOf P d = kti.kind) {x : PV} {cx : Value} (hk : keyKind kti.kind x = true) (hx : Rel pub σ x cx) (b : Bool) : (Instr.checkKey b 10000 T cx).run P w = .ok () w:=by
 have : (d = .bool ∨ d = .string ∨ ∃ k,d = .int k):=by
  rw [← hkd] at hk
  cases x <;> cases hq : tkOf P d <;> simp [hq,keyKind] at hk
  ·exact .inr (.inr ⟨_,tkOf_int hq⟩)
  ·exact .inl (tkOf_bool hq)
  ·exact .inr (.inl (tkOf_string hq))
 have e : (10000 : Nat) = 9999 + 1:=rfl
 rw [e,Instr.checkKey]
 rcases this with rfl | rfl | ⟨k,rfl⟩ <;> simp [run_underlying' hT]
theorem run_findKey {T : TypeId} {d : TypeDesc} {cx : Value} {xs : List MapEntry} {r : Option (Nat × Value)} (hT : P.underlying T = some d) (h : Instr.findNow d cx xs 0 = some r) : (Instr.findKey T cx xs).run P w = .ok r w:=by
 simp [Instr.findKey,run_underlying' hT,h]
theorem tkOf_map {d : TypeDesc} {kt et : TypeId} (h : tkOf P d = .map kt et) : d = .map kt et:=by
 cases d <;> simp only [tkOf] at h <;> first | (cases h;done) | (cases h;rfl) | (split at h <;> cases h)
theorem ok_makeMap {T : TypeId} (ho : o.op = .makeMap T none) (h : k (.mapv s.length) (s ++ [.map []])) : OpOK P N o e s k:=by
 intro C pub σ a w next Q hs he hn
 have hle:=hs.toBase.le_add ⟨w.heap.size,0,0,1⟩
 have hrun : (execOp a.eval o).run P w = .ok (.value (.map (some w.heap.size))) { w with heap:=w.heap.push (.map #[] 0) }:=by
  simp [execOp,ho,Instr.makeMap]
 refine wp_value hrun (hn _ _ _ pub _ _ h (hs.push _ _ ⟨w.heap.size,0,0,1⟩ rfl ?_) (he.mono PHeap.le.rfl' hle) ?_)
 ·exact ⟨_,Sig.add_same _ _ _,hs.toBase.pub_size (Nat.le_refl _),rfl,rfl,rfl,#[],0,by simp,rfl,fun j k v e a=>by simp at a⟩
 ·exact Rel.mapv (Sig.add_same σ s.length ⟨w.heap.size,0,0,1⟩)
theorem ents_run {C : Ctx} (hs : SR C pub σ s w) {m : PV} {cm : Value} {es : List (PV × PV)} (h : entsP s m = some es) (hr : Rel pub σ m cm) :
  (cm = .map none ∧ es = []) ∨ ∃ b xs clock,cm = .map (some b) ∧ w.heap[b]? = some (.map xs clock) ∧ xs.toList.length = es.length ∧ ∀ (j : Nat) (k v : PV) (e : MapEntry),es[j]? = some (k,v) → xs.toList[j]? = some e → Rel pub σ k e.key ∧ Rel pub σ v e.val:=by
 cases m <;> simp only [entsP] at h <;> first | (cases h;done) | skip
 ·cases hr;cases h;exact .inl ⟨rfl,rfl⟩
 ·cases hr with
  | mapv hσ=>
   split at h
   ·rename_i es' hi
    cases h
    obtain ⟨l,h1,h2,h3,h4,h5,xs,clock,h6,h7,h8⟩:=hs.obj _ _ hi
    rw [hσ] at h1;cases h1
    exact .inr ⟨_,xs,clock,rfl,h6,by simpa using h7,fun j k v e a b=>h8 j k v e a (by simpa using b)⟩
   ·cases h
 ·cases hr with
  | imap hb hsz hk hv=>
   cases h
   exact .inr ⟨_,_,_,rfl,hs.pubIn _ _ hb,by simpa using hsz,fun j k v e a b=>⟨(hk j k v e a (by simpa using b)).up (noSig_le _),(hv j k v e a (by simpa using b)).up (noSig_le _)⟩⟩
theorem zv_rel {T : TypeId} {z : PV} (hz : zvOf P T = some z) : ∃ zv,(zeroValue T).run P w = .ok zv w ∧ Rel pub σ z zv:=by
 simp only [zvOf,Option.map_eq_some_iff,Option.bind_eq_some_iff] at hz
 obtain ⟨zv,⟨i,h1,h2⟩,rfl⟩:=hz
 exact ⟨zv,by simp [zeroValue,run_typeInfo' h1,h2],ofConst_rel _ _ _ _⟩
theorem ok_lookup {T kt et : TypeId} {x y : Operand} {ok : Bool} {ti kti : TI} (ho : o.op = .lookup T x y ok) (ht : tinfo P T = some ti) (hkd : ti.kind = .map kt et) (hk : tinfo P kt = some kti)
  (h : WLookup P kti et s (evO e x) (evO e y) fun v b=>k (if ok = true then .tuple [v,.bool b] else v) s) : ReadOK P N o e s k:=by
 intro C pub σ a w hs he
 obtain ⟨i,d,h1,h2,rfl⟩:=tinfo_some ht
 obtain rfl:=tkOf_map hkd
 obtain ⟨ki,kd,hk1,hk2,rfl⟩:=tinfo_some hk
 obtain ⟨es,r,he1,hkk,hf,hr⟩:=h
 have hx:=evO_rel he x
 have hy:=evO_rel he y
 obtain ⟨cx,hcx⟩ : ∃ cx,a.eval x = cx:=⟨_,rfl⟩
 obtain ⟨cy,hcy⟩ : ∃ cy,a.eval y = cy:=⟨_,rfl⟩
 rw [hcx] at hx;rw [hcy] at hy
 have fin : ∀ v b cv,k (if ok = true then .tuple [v,.bool b] else v) s → Rel pub σ v cv → (Instr.lookup T cx cy ok).run P w = .ok (if ok = true then .tuple #[cv,.bool b] else cv) w →
   ∃ v cv,k v s ∧ Rel pub σ v cv ∧ (execOp a.eval o).run P w = .ok (.value cv) w:=by
  intro v b cv h1 h2 h3
  refine ⟨_,_,h1,?_,by simp [execOp,ho,hcx,hcy,h3];rfl⟩
  cases ok
  ·simpa using h2
  ·simp only [if_true]
   refine .tuple rfl fun j v' c hv' hc=>?_
   match j,hv',hc with
   | 0,hv',hc=>simp at hv' hc;subst hv' hc;exact h2
   | 1,hv',hc=>simp at hv' hc;subst hv' hc;exact .bool
   | j + 2,hv',hc=>simp at hv'
 have hck:=fun b=>run_checkKey (w:=w) hk2 rfl hkk hy b
 rcases ents_run hs he1 hx with ⟨rfl,rfl⟩ | ⟨b,xs,clock,rfl,hb,hl,hxs⟩
 ·cases hf
  obtain ⟨z,hz,hkz⟩:=hr
  obtain ⟨zv,hz1,hz2⟩:=zv_rel (pub:=pub) (σ:=σ) (w:=w) hz
  have hfk : (Instr.findKey kt cy []).run P w = .ok none w:=run_findKey hk2 rfl
  refine fin z false zv hkz hz2 ?_
  simp [Instr.lookup,run_underlying' h2,hck,hfk,hz1]
 ·obtain ⟨r',hn,hrr⟩ := findP_now (P := P) (d := kd) rfl hkk hy es xs.toList 0 r hl hxs hf
  have hfk:=run_findKey (w:=w) hk2 hn
  have hget : (getObj b).run P w = .ok (.map xs clock) w:=by simp [getObj,Sem.run,hb]
  rcases hrr with ⟨rfl,rfl⟩ | ⟨j,v,cv,key,rfl,rfl,hv,_,_⟩
  ·obtain ⟨z,hz,hkz⟩ := hr
   obtain ⟨zv,hz1,hz2⟩:=zv_rel (pub:=pub) (σ:=σ) (w:=w) hz
   refine fin z false zv hkz hz2 ?_
   simp [Instr.lookup,run_underlying' h2,hck,hget,hfk,hz1]
  ·refine fin v true cv hr hv ?_
   simp [Instr.lookup,run_underlying' h2,hck,hget,hfk]
theorem ok_mapUpdate {T kt et : TypeId} {x y z : Operand} {ti kti : TI} (ho : o.op = .mapUpdate T x y z ∨ o.op = .insert T x y z) (ht : tinfo P T = some ti) (hkd : ti.kind = .map kt et) (hk : tinfo P kt = some kti)
  (h : WMapUpdate kti s (evO e x) (evO e y) (evO e z) fun s'=>k (.tuple []) s') : OpOK P N o e s k:=by
 intro C pub σ a w next Q hs he hn
 obtain ⟨i,d,h1,h2,rfl⟩:=tinfo_some ht
 obtain rfl:=tkOf_map hkd
 obtain ⟨ki,kd,hk1,hk2,rfl⟩:=tinfo_some hk
 obtain ⟨i,es,r,hm,hi,hkk,hf,hkk2⟩:=h
 have hx:=evO_rel he x
 have hy:=evO_rel he y
 have hz:=evO_rel he z
 obtain ⟨cx,hcx⟩ : ∃ cx,a.eval x = cx:=⟨_,rfl⟩
 obtain ⟨cy,hcy⟩ : ∃ cy,a.eval y = cy:=⟨_,rfl⟩
 obtain ⟨cz,hcz⟩ : ∃ cz,a.eval z = cz:=⟨_,rfl⟩
 rw [hcx,hm] at hx;rw [hcy] at hy;rw [hcz] at hz
 cases hx with
 | mapv hσ=>
  rename_i l
  obtain ⟨l',g1,g2,g3,g4,g5,xs,clock,g6,g7,g8⟩:=hs.obj i _ hi
  rw [hσ] at g1;cases g1
  have hlb : l.b < w.heap.size:=(ObjOK.alive hs.obj ⟨_,hi,by simp,hσ,by omega⟩).2
  obtain ⟨r',hnow,hrr⟩:=findP_now (P:=P) (d:=kd) rfl hkk hy es xs.toList 0 r (by simpa using g7) (fun j k v e a b=>g8 j k v e a (by simpa using b)) hf
  have hck:=fun b=>run_checkKey (w:=w) hk2 rfl hkk hy b
  have hfk:=run_findKey (w:=w) hk2 hnow
  have hget : (getObj l.b).run P w = .ok (.map xs clock) w:=by simp [getObj,Sem.run,g6]
  have hset : ∀ ob,(setObj l.b ob).run P w = .ok () { w with heap:=w.heap.setIfInBounds l.b ob }:=by
   intro ob;simp [setObj,Sem.run,g6]
  rcases hrr with ⟨rfl,rfl⟩ | ⟨j,v,cv,key,rfl,rfl,hv,hjk,hkeq⟩
  ·have hrun : (execOp a.eval o).run P w = .ok .skip { w with heap := w.heap.setIfInBounds l.b (.map (xs.push ⟨cy,cz,clock⟩) (clock + 1)) } := by
    rcases ho with ho | ho <;> simp [execOp,ho,hcx,hcy,hcz,Instr.mapUpdate,run_underlying' h2,hck,hget,hfk,hset]
   refine wp_skip' hrun (hn _ _ _ pub σ _ hkk2 (hs.write hi (by simp) hσ (by omega) (.map (putP (evO e y) (evO e z) es none)) _ (by simp) ?_) he ?_)
   ·refine ⟨l,hσ,g2,g3,g4,g5,xs.push ⟨cy,cz,clock⟩,clock + 1,by simp [Array.getElem?_setIfInBounds,hlb],by simp [putP,g7],fun j k v en ha hb => ?_⟩
    simp only [putP] at ha
    rcases Nat.lt_or_ge j es.length with hj | hj
    ·rw [List.getElem?_append_left hj] at ha
     rw [Array.getElem?_push_lt (by omega)] at hb
     exact g8 j k v en ha (by rw [Array.getElem?_eq_getElem (by omega)];exact hb)
    ·have hje : j = es.length := by
      have:=lt_of_getElem? ha
      simp at this;omega
     subst hje
     simp at ha
     rw [← g7] at hb
     simp at hb
     obtain ⟨rfl,rfl⟩:=ha
     subst hb
     exact ⟨hy,hz⟩
   ·exact .tuple rfl fun j v c hv=>by simp at hv
  ·have hjl : j < xs.size := by have := lt_of_getElem? hjk; omega
   have hxj : xs[j]? = some xs[j]:=Array.getElem?_eq_getElem hjl
   have hold:=g8 j key v _ hjk hxj
   have hsame : Instr.sameBits 10000 xs[j].key cy = true:=by
    have hkey:=hold.1
    generalize xs[j].key = ck at hkey
    cases hq : evO e y <;> rw [hq] at hkeq hy <;> cases key <;> simp only [keyEq] at hkeq <;> first | (cases hkeq;done) | skip
    all_goals (cases hkey;cases hy)
    ·split at hkeq
     ·rename_i hkk'
      simp only [Option.some.injEq,beq_iff_eq] at hkeq
      subst hkk' hkeq
      simp [Instr.sameBits]
     ·cases hkeq
    ·simp only [Option.some.injEq,beq_iff_eq] at hkeq
     subst hkeq;simp [Instr.sameBits]
    ·simp only [Option.some.injEq,decide_eq_true_eq] at hkeq
     subst hkeq
     simp only [Instr.sameBits]
     rw [beq_toListBytes,str_beq];simp
   have hstay : (Instr.keyThatStays xs[j].key cy).run P w = .ok cy w:=by simp [Instr.keyThatStays,hsame]
   have hrun : (execOp a.eval o).run P w = .ok .skip { w with heap:=w.heap.setIfInBounds l.b (.map (xs.modify j fun e=>{ e with key:=cy,val:=cz }) clock) }:=by
    rcases ho with ho | ho <;> simp [execOp,ho,hcx,hcy,hcz,Instr.mapUpdate,run_underlying' h2,hck,hget,hfk,hset,hxj,hstay]
   refine wp_skip' hrun (hn _ _ _ pub σ _ hkk2 (hs.write hi (by simp) hσ (by omega) (.map (putP (evO e y) (evO e z) es (some (j + 0,v)))) _ (by simp) ?_) he ?_)
   ·refine ⟨l,hσ,g2,g3,g4,g5,_,clock,by simp [Array.getElem?_setIfInBounds,hlb]; rfl,by simp [putP,g7],fun j' k v' en ha hb => ?_⟩
    simp only [putP,Nat.add_zero] at ha
    have hj'l : j' < es.length:=by have:=lt_of_getElem? ha;simpa using this
    rw [List.getElem?_set] at ha
    rw [Array.getElem?_modify] at hb
    split at ha
    ·rename_i hjj
     subst hjj
     simp only [hj'l,if_true,Option.some.injEq,Prod.mk.injEq] at ha
     obtain ⟨rfl,rfl⟩:=ha
     simp only [if_true,hxj,Option.map_some,Option.some.injEq] at hb
     subst hb
     exact ⟨hy,hz⟩
    ·rename_i hjj
     rw [if_neg hjj] at hb
     exact g8 j' k v' en ha hb
   ·exact .tuple rfl fun j v c hv=>by simp at hv
def delP (es : List (PV × PV)) : Option (Nat × PV) → List (PV × PV)
 | some (j,_)=>es.eraseIdx j
 | none=>es
def WDelete (kti : TI) (s : Store) (m x : PV) (k : Store → Prop) : Prop:=
 ∃ i es r,m = .mapv i ∧ s[i]? = some (.map es) ∧ keyKind kti.kind x = true ∧ findP x es 0 = some r ∧ k (s.set i (.map (delP es r)))
theorem eraseIn_get {α : Type} (xs : Array α) (j i : Nat) (hj : j < xs.size) : (xs.eraseIdxIfInBounds j)[i]? = if i < j then xs[i]? else xs[i + 1]?:=by
 unfold Array.eraseIdxIfInBounds
 rw [dif_pos hj,← Array.getElem?_toList,Array.toList_eraseIdx,List.getElem?_eraseIdx,Array.getElem?_toList,Array.getElem?_toList]
theorem eraseIn_size {α : Type} (xs : Array α) (j : Nat) (hj : j < xs.size) : (xs.eraseIdxIfInBounds j).size = xs.size - 1:=by
 unfold Array.eraseIdxIfInBounds
 rw [dif_pos hj,Array.size_eraseIdx]
theorem ok_delete {x y : Operand} {T T2 kt et : TypeId} {ti kti : TI} (ho : o.op = .call { callee := .builtin .delete,args := #[x,y],argTypes := #[T,T2] }) (ht : tinfo P T = some ti) (hkd : ti.kind = .map kt et) (hk : tinfo P kt = some kti)
  (h : WDelete kti s (evO e x) (evO e y) fun s'=>k (.tuple []) s') : OpOK P N o e s k:=by
 intro C pub σ a w next Q hs he hn
 obtain ⟨i,d,h1,h2,rfl⟩:=tinfo_some ht
 obtain rfl:=tkOf_map hkd
 obtain ⟨ki,kd,hk1,hk2,rfl⟩:=tinfo_some hk
 obtain ⟨i,es,r,hm,hi,hkk,hf,hkk2⟩:=h
 have hx:=evO_rel he x
 have hy:=evO_rel he y
 obtain ⟨cx,hcx⟩ : ∃ cx,a.eval x = cx:=⟨_,rfl⟩
 obtain ⟨cy,hcy⟩ : ∃ cy,a.eval y = cy:=⟨_,rfl⟩
 rw [hcx,hm] at hx;rw [hcy] at hy
 cases hx with
 | mapv hσ=>
  rename_i l
  obtain ⟨l',g1,g2,g3,g4,g5,xs,clock,g6,g7,g8⟩:=hs.obj i _ hi
  rw [hσ] at g1;cases g1
  have hlb : l.b < w.heap.size:=(ObjOK.alive hs.obj ⟨_,hi,by simp,hσ,by omega⟩).2
  obtain ⟨r',hnow,hrr⟩:=findP_now (P:=P) (d:=kd) rfl hkk hy es xs.toList 0 r (by simpa using g7) (fun j k v e a b=>g8 j k v e a (by simpa using b)) hf
  have hck:=fun b=>run_checkKey (w:=w) hk2 rfl hkk hy b
  have hfk:=run_findKey (w:=w) hk2 hnow
  have hget : (getObj l.b).run P w = .ok (.map xs clock) w:=by simp [getObj,Sem.run,g6]
  have hset : ∀ ob,(setObj l.b ob).run P w = .ok () { w with heap:=w.heap.setIfInBounds l.b ob }:=by
   intro ob;simp [setObj,Sem.run,g6]
  have htup : ∀ (pub : PHeap) (σ : Sig),Rel pub σ (.tuple []) (.tuple #[]):=fun _ _=>.tuple rfl fun j v c h=>by simp at h
  rcases hrr with ⟨rfl,rfl⟩ | ⟨j,v,cv,key,rfl,rfl,hv,hjk,hkeq⟩
  ·have hrun : (execOp a.eval o).run P w = .ok (.value (.tuple #[])) { w with heap := w.heap.setIfInBounds l.b (.map xs clock) } := by
    simp [execOp,ho,hcx,hcy,resolve,invoke,builtin,Builtin.delete_,run_underlying' h2,hck,hget,hfk,hset]
   refine wp_value hrun (hn _ _ _ pub σ _ hkk2 (hs.write hi (by simp) hσ (by omega) (.map (delP es none)) _ (by simp) ?_) he (htup _ _))
   exact ⟨l,hσ,g2,g3,g4,g5,xs,clock,by simp [Array.getElem?_setIfInBounds,hlb],g7,g8⟩
  ·have hjl : j < es.length := lt_of_getElem? hjk
   have hjx : j < xs.size:=by omega
   have hrun : (execOp a.eval o).run P w = .ok (.value (.tuple #[])) { w with heap:=w.heap.setIfInBounds l.b (.map (xs.eraseIdxIfInBounds j) clock) }:=by
    simp [execOp,ho,hcx,hcy,resolve,invoke,builtin,Builtin.delete_,run_underlying' h2,hck,hget,hfk,hset]
   refine wp_value hrun (hn _ _ _ pub σ _ hkk2 (hs.write hi (by simp) hσ (by omega) (.map (delP es (some (j + 0,v)))) _ (by simp) ?_) he (htup _ _))
   refine ⟨l,hσ,g2,g3,g4,g5,_,clock,by simp [Array.getElem?_setIfInBounds,hlb];rfl,by rw [eraseIn_size xs j hjx];simp only [delP,Nat.add_zero];rw [List.length_eraseIdx_of_lt hjl];omega,fun j' k v' en ha hb=>?_⟩
   simp only [delP,Nat.add_zero] at ha
   rw [List.getElem?_eraseIdx] at ha
   rw [eraseIn_get xs j j' hjx] at hb
   split at ha
   ·rename_i h;rw [if_pos h] at hb;exact g8 j' k v' en ha hb
   ·rename_i h;rw [if_neg h] at hb;exact g8 (j' + 1) k v' en ha hb
theorem ok_nilCheck {x : Operand} (ho : o.op = .nilCheck x) (hx : notNil (evO e x) = true) (h : k (evO e x) s) : ReadOK P N o e s k:=by
 intro C pub σ a w hs he
 have hr:=evO_rel he x
 refine ⟨_,a.eval x,h,hr,?_⟩
 generalize evO e x = v at hx hr
 generalize hv : a.eval x = cv at hr
 cases hr <;> first | (cases hx;done) | (simp [execOp,ho,hv])
end
end Go.Pv
