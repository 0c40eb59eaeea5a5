import Derived.Test.YtbimioonhfhflaaDPvWalk
set_option linter.unusedVariables false
set_option linter.unusedSimpArgs false
namespace Go.Pv
open Go Go.RowKit
def pubA (p : PHeap) (b : Nat) (o : Obj) : PHeap:=fun x=>if x = b then some o else p x
theorem pubA_le {p : PHeap} {b : Nat} {o : Obj} (h : p b = none) : p.le (pubA p b o):=fun x u hx=>by
 unfold pubA
 split
 ·rename_i e;subst e;rw [h] at hx;cases hx
 ·exact hx
theorem SR.show {C : Ctx} {p : PHeap} {σ : Sig} {s : Store} {w : World} (h : SR C p σ s w) (o : Obj) : SR C (pubA p w.heap.size o) σ s { w with heap:=w.heap.push o }:=by
 have hp : p w.heap.size = none:=h.toBase.pub_size (Nat.le_refl _)
 have hnew : ∀ b,b < w.heap.size → (w.heap.push o)[b]? = w.heap[b]?:=fun b hb=>by
  rw [Array.getElem?_push];rw [if_neg (by omega)]
 have hlt : ∀ i l',Alive s σ i l' → l'.b < w.heap.size:=fun i l' ha=>(ObjOK.alive h.obj ha).2
 exact {
  pubIn:=fun b o' hb=>by
   show (w.heap.push o)[b]? = _
   unfold pubA at hb
   split at hb
   ·rename_i e;subst e;cases hb;simp
   ·have := h.pubIn b o' hb
    rw [hnew b (by rcases Nat.lt_or_ge b w.heap.size with h | h;exact h;simp [Array.getElem?_eq_none h] at this)];exact this
  obj:=fun i o' hi=>by
   refine (h.obj i o' hi).mono (pubA_le hp) Sig.le.rfl' fun l' hd hσ hn=>⟨hnew _ (hlt i l' ⟨o',hi,hd,hσ,hn⟩),?_⟩
   have:=hlt i l' ⟨o',hi,hd,hσ,hn⟩
   unfold pubA;rw [if_neg (by omega)]
  inj:=h.inj
  sig:=h.sig
  os:=h.os
  tape:=h.tape
  output:=h.output
  size:=by have:=h.size;simp;omega
  frame:=fun b hb hd=>by
   have h1:=h.frame b hb hd
   have hs:=h.size
   refine ⟨(hnew b (Nat.lt_of_lt_of_le hb h.size)).trans h1.1,?_⟩
   unfold pubA;rw [if_neg (by omega)];exact h1.2
  own:=h.own
  ple:=h.ple.trans (pubA_le hp)
  sle:=h.sle }
section
variable {P : Program} {N : FrN} {o : Oper} {e e' : Env} {s : Store} {k : PV → Store → Prop}
def yafz (ti : TI) (x y : PV) : Option (List (List PV)):=match ti.kind,x,y with
 | .slice _ esz by' _ (some z),.clip zz xs,.list ys=>if z.length = esz ∧ esz ≠ 0 ∧ by' ≠ 0 ∧ zz = esz ∧ ys ≠ [] ∧ (∀ row ∈ ys,row.length = esz) ∧ (xs.length + ys.length) * by' ≤ 140737488355328 then some (xs ++ ys) else none
 | _,_,_=>none
theorem list_run {pub : PHeap} {w : World} (hpub : ∀ b o,pub b = some o → w.heap[b]? = some o) {esz : Nat} {ys : List (List PV)} {cy : Value} (hr : Rel pub noSig (.list ys) cy) (hw : ∀ row ∈ ys,row.length = esz) :
  (Builtin.lenOf cy).run P w = .ok ys.length w ∧ ∃ arr,(Builtin.firstCells esz ys.length cy).run P w = .ok arr w ∧ arr.size = ys.length * esz ∧ RowsIn (Rel pub noSig) ys arr 0 esz:=by
 have hwide : ∀ (r : Nat) (row : List PV),ys[r]? = some row → row.length = esz:=fun r row hr=>hw row (List.mem_of_getElem? hr)
 cases hr with
 | list0 hc=>
  rename_i a cap
  refine ⟨by simp [Builtin.lenOf],#[],?_,by simp,⟨hwide,fun r row j v c h1=>by simp at h1⟩⟩
  cases a <;> simp [Builtin.firstCells,loadCells,loadCellsFrom]
 | list hb hlen hcap hw' hsz hrel=>
  rename_i b o' cs ty fr esz' cap
  by_cases h0 : ys.length = 0
  ·have : ys = [] := List.length_eq_zero_iff.1 h0
   subst this
   exact ⟨by simp [Builtin.lenOf],#[],by simp [Builtin.firstCells,loadCells,loadCellsFrom],by simp,⟨hwide,fun r row j v c h1=>by simp at h1⟩⟩
  ·obtain rfl : esz' = esz := by
    have h5 : ys[0]? = some ys[0]:=List.getElem?_eq_getElem (by omega)
    have h6:=hw' 0 _ h5
    have h7:=hwide 0 _ h5
    omega
   refine ⟨by simp [Builtin.lenOf],cs.extract o' (o' + ys.length * esz'),?_,by simp;omega,⟨hwide,fun r row j v c h1 h2 h3=>?_⟩⟩
   ·simp only [Builtin.firstCells];exact run_loadCells (hpub _ _ hb) _ hsz
   ·rw [Array.getElem?_extract] at h3
    split at h3
    ·exact hrel r row j v c h1 h2 (by rw [← h3];congr 1;omega)
    ·cases h3
def WFz (P : Program) (op : Op) (e : Env) (v : PV) : Prop:=match op with
 | .buildSlice T len parts => ∃ ti el esz by' ag z rows,tinfo P T = some ti ∧ ti.kind = .slice el esz by' ag (some z) ∧ z.length = esz ∧ len * esz ≤ 16777216 ∧ esz ≠ 0 ∧
   fillRows esz (List.replicate len z) (parts.toList.map fun p=>(p.1,evO e p.2)) = some rows ∧ (∀ row ∈ rows,∀ c ∈ row,Closed c) ∧ v = .list rows
 | .call ⟨.builtin .append,args,Ts⟩=>∃ x y T T2 ti ti2 rows,args = #[x,y] ∧ Ts = #[T,T2] ∧ tinfo P T = some ti ∧ tinfo P T2 = some ti2 ∧ (∀ kd,ti2.kind ≠ .int kd) ∧ yafz ti (evO e x) (evO e y) = some rows ∧ v = .list rows
 | _=>False
theorem ok_fz {v : PV} (h : WFz P o.op e v) (hkk : k v s) : OpOK P N o e s k:=by
 intro C pub σ a w next Q hs he hnext
 unfold WFz at h
 split at h
 ·rename_i T len parts ho
  obtain ⟨ti,el,esz,by',ag,z,rows,ht,hk,hzl,hmax,hez,hf,hcl,rfl⟩:=h
  obtain ⟨i,d,h1,h2,rfl⟩:=tinfo_some ht
  obtain ⟨rfl,ei,hei,rfl,rfl,_,hz⟩:=tkOf_slice hk
  obtain ⟨zv,hzv,hzr⟩:=zero_relA (pub:=pub) (σ:=σ) hei hz
  have hzs : zv.cells.size = ei.size:=by rw [← hzl,hzr.1]
  have hp:=parts_rel he parts
  have hzero:=zero_rows (pub:=pub) (σ:=σ) hei hzv (m:=len) (n:=len) (Nat.le_refl _) hz
  rw [hzs] at hzero
  obtain ⟨arr',h3,h4,h5,h6⟩:=fillRows_rel _ _ _ _ _ hzero (by simp) hf hp.1 hp.2
  have hlen : rows.length = len:=by simpa using h6
  simp only [Array.toList_map] at h3
  have hrun : (execOp a.eval o).run P w = .ok (.value (.slice (some ⟨w.heap.size,0,none⟩) len len)) { w with heap:=w.heap.push (.cells arr' el) }:=by
   have hm' : ¬ (len * ei.size > 16777216):=by omega
   have er : ∀ f : Nat → Value,(Array.range 0).map f = #[]:=fun f=>Array.eq_empty_of_size_eq_zero (by simp)
   by_cases hz0 : len = 0
   ·subst hz0
    simp only [Nat.zero_mul,er] at h3
    simp [execOp,ho,Instr.buildSlice,run_underlying' h2,run_sizeOf' hei,er,h3,newRow]
   ·have hz1 : len * ei.size ≠ 0 := Nat.mul_ne_zero hz0 hez
    simp [execOp,ho,Instr.buildSlice,run_underlying' h2,run_sizeOf' hei,hm',hz1,zeroValue,run_typeInfo' hei,hzv,hzs,h3,newRow]
  have hp0 : pub w.heap.size = none:=hs.toBase.pub_size (Nat.le_refl _)
  refine wp_value hrun (hnext _ _ _ _ _ _ hkk (hs.show (.cells arr' el)) (he.mono (pubA_le hp0) Sig.le.rfl') ?_)
  have hb : pubA pub w.heap.size (.cells arr' el) w.heap.size = some (.cells arr' el):=by simp [pubA]
  rw [← hlen]
  refine .list hb (Nat.le_refl _) ?_ h4.wide (by rw [h5,hlen];simp) fun r row j v c hr hj hc=>?_
  ·have h7 : 0 < ei.size := by omega
   have h8 : len * 1 ≤ len * ei.size:=Nat.mul_le_mul_left _ h7
   simp [maxLen];omega
  ·exact (hcl row (List.mem_of_getElem? hr) v (List.mem_of_getElem? hj) _ _ _ (h4.rel r row j v c hr hj hc)).mono (pubA_le hp0) Sig.le.rfl'
 ·rename_i args Ts ho
  obtain ⟨x,y,T,T2,ti,ti2,rows,rfl,rfl,ht,ht2,hk2,hy,rfl⟩:=h
  obtain ⟨i,d,h1,h2,rfl⟩:=tinfo_some ht
  obtain ⟨i2,d2,_,hd2,rfl⟩:=tinfo_some ht2
  have hd : ∀ kd,d2 ≠ .int kd:=by rintro kd rfl;exact hk2 kd rfl
  unfold yafz at hy
  split at hy
  ·rename_i el esz by' ag z zz xs ys hk hx hyy
   split at hy <;> cases hy
   rename_i hc
   obtain ⟨hzl,hez,hby,rfl,hne,hyw,hroom⟩:=hc
   obtain ⟨rfl,ei,hei,rfl,rfl,_,hz⟩:=tkOf_slice hk
   obtain ⟨zv,hzv,hzr⟩:=zero_relA (pub:=pub) (σ:=σ) hei hz
   have hzs : zv.cells.size = ei.size:=by rw [← hzl,hzr.1]
   have hrx:=evO_rel he x
   have hry:=evO_rel he y
   obtain ⟨cx,hv⟩ : ∃ cx,a.eval x = cx:=⟨_,rfl⟩
   obtain ⟨cy,hvy⟩ : ∃ cy,a.eval y = cy:=⟨_,rfl⟩
   rw [hx,hv] at hrx
   rw [hyy,hvy] at hry
   have hry : Rel pub noSig (.list ys) cy:=closed_list ys pub σ cy hry
   cases hrx with
   | clip hxw hrl=>
    rename_i aa n
    obtain rfl : n = xs.length:=by cases hrl <;> rfl
    have hs1 : SR C pub σ s w.drew:=hs.drawn rfl rfl rfl rfl
    obtain ⟨hly,_⟩:=list_run (P:=P) hs.pubIn hry hyw
    obtain ⟨_,xa1,hfx1,hxs1,hxR1⟩:=list_run (P:=P) hs1.pubIn hrl hxw
    obtain ⟨_,ya1,hfy1,hys1,hyR1⟩:=list_run (P:=P) hs1.pubIn hry hyw
    have hyp : 0 < ys.length:=List.length_pos_iff.2 hne
    have hexec : (execOp a.eval o).run P w = ((Builtin.append_ #[T,T2] o.type #[.slice aa xs.length xs.length,cy]).run P w).andThen fun v w'=>.ok (.value v) w':=by
     simp [execOp,ho,resolve,invoke,builtin,hv,hvy]
    obtain ⟨nc,hn1,hn2,hrun⟩:=run_append_grow (ty:=o.type) h2 hei hzv hd2 hd hly hfy1 hfx1 (by omega) hby hroom
    have hp0 : pub w.drew.heap.size = none:=hs1.toBase.pub_size (Nat.le_refl _)
    have hR:=hxR1.append hyR1 hxs1 (Builtin.zeroCells zv.cells (nc - (xs.length + ys.length))) hys1
    refine wp_value (by rw [hexec,hrun];rfl) (hnext _ _ _ _ _ _ hkk (hs1.show (.cells (xa1 ++ ya1 ++ Builtin.zeroCells zv.cells (nc - (xs.length + ys.length))) el)) (he.mono (pubA_le hp0) Sig.le.rfl') ?_)
    have hb : pubA pub w.drew.heap.size (.cells (xa1 ++ ya1 ++ Builtin.zeroCells zv.cells (nc - (xs.length + ys.length))) el) w.heap.size = some (.cells (xa1 ++ ya1 ++ Builtin.zeroCells zv.cells (nc - (xs.length + ys.length))) el):=if_pos rfl
    have hl : (xs ++ ys).length = xs.length + ys.length:=by simp
    rw [← hl] at hn1
    rw [show xs.length + ys.length = (xs ++ ys).length from hl.symm] at hb ⊢
    refine .list hb hn1 hn2 hR.wide ?_ fun r row j v c hr hj hc=>?_
    ·simp only [Array.size_append,hxs1,hys1,hl];rw [Nat.zero_add,Nat.add_mul];omega
    ·rw [hl] at hc;exact (hR.rel r row j v c hr hj hc).mono (pubA_le hp0) Sig.le.rfl'
  ·cases hy
 ·exact h.elim
theorem fz_congr {v : PV} {op : Op} (h : WFz P op e v) (hx : ∀ x ∈ op.operands,evO e x = evO e' x) : WFz P op e' v:=by
 unfold WFz at h ⊢
 split at h
 ·rename_i T len parts
  have h2 : parts.toList.map (fun p=>(p.1,evO e p.2)) = parts.toList.map fun p=>(p.1,evO e' p.2):=List.map_congr_left fun p hp=>by
   rw [hx p.2 (by simp only [Op.operands,List.mem_toArray,List.mem_map];exact ⟨p,by simpa using hp,rfl⟩)]
  rw [← h2];exact h
 ·obtain ⟨x,y,T,T2,ti,ti2,rows,rfl,rfl,h⟩ := h
  exact ⟨x,y,T,T2,ti,ti2,rows,rfl,rfl,by rw [← hx x (by simp [Op.operands,Call.operands]),← hx y (by simp [Op.operands,Call.operands])];exact h⟩
 ·exact h.elim
def WZ (P : Program) (op : Op) (e : Env) (s : Store) (k : PV → Store → Prop) : Prop:=WOp P op e s k ∨ ∃ v,WFz P op e v ∧ k v s
theorem wz_ok (h : WZ P o.op e s k) : OpOK P N o e s k:=by
 rcases h with h | ⟨v,h,hk⟩
 ·exact wop_ok h
 ·exact ok_fz h hk
theorem wz_congr {op : Op} (h : WZ P op e s k) (hx : ∀ x ∈ op.operands,evO e x = evO e' x) : WZ P op e' s k:=by
 rcases h with h | ⟨v,h,hk⟩
 ·exact .inl (wop_congr h hx)
 ·exact .inr ⟨v,fz_congr h hx,hk⟩
def WGZ (P : Program) (o : LOp) (e : Env) (s : Store) (k : PV → Store → Prop) : Prop:=match o.g with
 | none=>WZ P o.op e s k
 | some (some d,b)=>∃ t,gdV (e d) = some t ∧ (t = some b → WZ P o.op e s k) ∧ (t ≠ some b → k (.tuple []) s)
 | some (none,_)=>False
theorem WG.z {o : LOp} (h : WG P o e s k) : WGZ P o e s k:=by
 unfold WG at h;unfold WGZ
 split at h
 ·rename_i hg;rw [hg];exact .inl h
 ·rename_i d b hg; rw [hg]
  obtain ⟨t,h1,h2,h3⟩:=h
  exact ⟨t,h1,fun e=>.inl (h2 e),h3⟩
 ·exact h.elim
theorem WGZ.run {ops : Array Oper} {o : Oper} {k : PV → Store → Prop} {C : Ctx} {pub : PHeap} {σ : Sig} {a : Act} {w : World} {Q : Act → World → Prop} {Q' : Exit → Act → World → Prop} (h : WGZ P (lop (dsts ops.toList) o) e s k) (hN : ∀ d,o.dst = some d → d ∈ N) (hs : SR C pub σ s w) (he : ER pub σ N e a)
  (hn : ∀ v s' pub' σ' a' w',k v s' → SR C pub' σ' s' w' → ER pub' σ' N (e.upd o.dst v) a' → Q a' w') :
  if Region.wanted o (yielded ops a.tmps) then o.wp P a w Q Q' else Q (a.put o.dst undef) w:=by
 have go : WZ P o.op e s k → o.wp P a w Q Q':=by
  intro hw
  refine wz_ok (N:=N) hw C pub σ a w _ _ hs he ?_
  intro v s' cv pub' σ' w' hk' hs' he' hr'
  exact hn v s' pub' σ' _ w' hk' hs' (he'.put _ hN hr')
 unfold WGZ lop at h
 cases hg : o.guard with
 | none=>
  simp only [hg] at h
  have : Region.wanted o (yielded ops a.tmps) = true:=by simp [Region.wanted,hg]
  rw [if_pos this]
  exact go h
 | some g=>
  obtain ⟨j,b⟩:=g
  simp only [hg] at h
  cases hx : nth (dsts ops.toList) j with
  | none=>simp only [hx] at h
  | some d=>
   simp only [hx] at h
   obtain ⟨t,ht,h1,h2⟩:=h
   have hdst : (ops[j]?).bind (·.dst) = some d:=by
    rw [nth_eq,dsts_eq,List.getElem?_map,Array.getElem?_toList] at hx
    cases hx' : ops[j]? with
    | none=>simp [hx'] at hx
    | some oo=>simpa [hx'] using hx
   have hyield:=yield_of he hdst ht
   by_cases htb : t = some b
   ·have : Region.wanted o (yielded ops a.tmps) = true := by simp [Region.wanted,hg,hyield,htb]
    rw [if_pos this]
    exact go (h1 htb)
   ·have : Region.wanted o (yielded ops a.tmps) = false := by simp [Region.wanted,hg,hyield,htb]
    rw [if_neg (by simp [this])]
    exact hn _ _ _ _ _ _ (h2 htb) hs (he.put _ hN (.tuple rfl fun j v c h=>by simp at h))
theorem wgz_congr {ops : Array Oper} {o : Oper} {k : PV → Store → Prop} (h : WGZ P (lop (dsts ops.toList) o) e s k) (hx : ∀ t ∈ tmpsOf o ++ guardTmp ops o,e t = e' t) : WGZ P (lop (dsts ops.toList) o) e' s k:=by
 have hev : ∀ x ∈ o.op.operands,evO e x = evO e' x:=by
  intro x hm
  cases x with
  | tmp t=>
   have:=hx t (by
    rw [List.mem_append];refine .inl ?_
    simp only [tmpsOf,List.mem_filterMap]
    exact ⟨.tmp t,by simpa using hm,rfl⟩)
   simpa [evO] using this
  | const v=>rfl
  | global g=>rfl
  | func f=>rfl
 unfold WGZ lop at h ⊢
 cases hg : o.guard with
 | none=>simp only [hg] at h ⊢;exact wz_congr h hev
 | some g=>
  obtain ⟨j,b⟩:=g
  simp only [hg] at h ⊢
  cases hn : nth (dsts ops.toList) j with
  | none=>simp only [hn] at h
  | some d=>
   simp only [hn] at h ⊢
   obtain ⟨t,ht,h1,h2⟩:=h
   have hdst : (ops[j]?).bind (·.dst) = some d:=by
    rw [nth_eq,dsts_eq,List.getElem?_map,Array.getElem?_toList] at hn
    cases hx' : ops[j]? with
    | none=>simp [hx'] at hn
    | some oo=>simpa [hx'] using hn
   have hd : e d = e' d:=hx d (by rw [List.mem_append];refine .inr ?_;simp [guardTmp,hg,hdst])
   exact ⟨t,by rw [← hd];exact ht,fun h'=>wz_congr (h1 h') hev,h2⟩
end
end Go.Pv
namespace Go.Pv
open Go Go.RowKit
section
variable {P : Program} {N : FrN} {m : Nat} {e e' : Env} {s : Store} {K : Post}
def WMixT (P : Program) (N : FrN) (lo : Option LOp) (T : List LOp → Env → Store → Prop) : Nat → List LOp → Env → Store → Store → Prop
 | 0,ops,e,s,f=>T ops e (s ++ f)
 | n + 1,[],e,s,f=>False
 | n + 1,o :: r,e,s,f=>(∀ d,o.d = some d → d ∈ N) ∧
  ((∃ v,(∀ t,WGZ P o e (s ++ t) (fun v' s'=>v' = v ∧ s' = s ++ t)) ∧ WMixT P N lo T n r (e.upd o.d v) s f) ∨
   (f = [] ∧ (∀ l,lo = some l → o.d ≠ l.d) ∧ ∃ v f2,f2 ≠ [] ∧ WG P o e s (fun v' s'=>v' = v ∧ s' = s ++ f2) ∧ WMixT P N lo T n r (e.upd o.d v) s f2))
def lateO (ops : Array Oper) (lt : Option Nat) : Option LOp:=lt.bind fun L=>(ops[L]?).map (lop (dsts ops.toList))
def lateT (P : Program) (N : FrN) (lo : Option LOp) (k : Env → Store → Prop) (ops : List LOp) (e : Env) (s : Store) : Prop:=
 WOps P N ops e s k ∧ ∀ l,lo = some l → ∃ b r,ops = b :: r ∧ WOps P N (b :: l :: r) (e.upd l.d .any) s k
def mixChk3 (ops : Array Oper) (m : Nat) (lt : Option Nat) : Bool:=
 noSt ops m && (decide (m ≤ ops.size) && (match lt with | none=>true | some L=>decide (m < ops.size) && decide (L < m) && ((ops[L]?).bind (·.dst)).isSome) && (List.range ops.size).all fun i=>match ops[i]? with
  | none=>false
  | some o=>(edgesOn o).all (fun j=>decide (j < i)) &&
   (if i < m then ((List.range m).all (fun j=>j == i || o.dst.isNone || !((ops[j]?).map (·.dst) == some o.dst))) &&
    (tmpsOf o ++ guardTmp ops o).all fun t=>(List.range m).all fun j=>!((ops[j]?).map (·.dst) == some (some t)) || (decide (j < i) && reaches ops ops.size i j) || (decide (i < j) && reaches ops ops.size j i)
   else (List.range i).all fun j=>(i == m && lt == some j) || reaches ops ops.size i j))
theorem wmixT_vals {lo : Option LOp} {T : List LOp → Env → Store → Prop} {ds : List (Option Nat)} : ∀ (m : Nat) (R : List Oper) (e : Env) (f : Store),WMixT P N lo T m (lopsL ds R) e s f →
  m ≤ R.length ∧ ∃ (V : Nat → PV) (A : Option Nat) (f' : Store),(∀ (i : Nat) (o : Oper),i < m → R[i]? = some o → (∀ d,o.dst = some d → d ∈ N) ∧
    ((A ≠ some i ∧ ∀ t,WGZ P (lop ds o) (putsE e (fun i=>((R[i]?).map (·.dst)).getD none) V ((List.range i).reverse)) (s ++ t) (fun v' s'=>v' = V i ∧ s' = s ++ t)) ∨
     (A = some i ∧ WG P (lop ds o) (putsE e (fun i=>((R[i]?).map (·.dst)).getD none) V ((List.range i).reverse)) s (fun v' s'=>v' = V i ∧ s' = s ++ f')))) ∧
   (A = none → f' = f) ∧ (A ≠ none → f = []) ∧ (∀ a,A = some a → ∀ l,lo = some l → ((R[a]?).map (·.dst)).getD none ≠ l.d) ∧ (∀ a,A = some a → a < m) ∧
   T (lopsL ds (R.drop m)) (putsE e (fun i=>((R[i]?).map (·.dst)).getD none) V ((List.range m).reverse)) (s ++ f'):=by
 intro m
 induction m with
 | zero=>intro R e f h;exact ⟨Nat.zero_le _,fun _=>.any,none,f,fun i o hi=>absurd hi (Nat.not_lt_zero _),(fun _=>rfl),(fun h=>absurd rfl h),(fun a (h : none = some a)=>by cases h),(fun a (h : none = some a)=>by cases h),(by cases R <;> exact h)⟩
 | succ m ih=>
  intro R e f h
  cases R with
  | nil=>exact h.elim
  | cons o R=>
   obtain ⟨hN,h⟩:=h
   have key : ∀ (v : PV) (V : Nat → PV) n,putsE e (fun i=>(((o :: R)[i]?).map (·.dst)).getD none) (fun i=>if i = 0 then v else V (i - 1)) ((List.range (n + 1)).reverse) = putsE (e.upd (lop ds o).d v) (fun i=>((R[i]?).map (·.dst)).getD none) V ((List.range n).reverse):=by
    intro v V n
    induction n with
    | zero=>rfl
    | succ n ih2=>
     rw [List.range_succ,List.reverse_append]
     conv=>rhs;rw [List.range_succ,List.reverse_append]
     simp only [List.reverse_cons,List.reverse_nil,List.nil_append,List.cons_append,putsE]
     rw [ih2]
     simp
   rcases h with ⟨v,hv,hr⟩ | ⟨hf,hno,v,f2,hne,hg,hr⟩
   ·obtain ⟨h1,V,A,f',h2,h3,hne4,h4,h5,h6⟩ := ih R _ f hr
    refine ⟨by simp;omega,fun i=>if i = 0 then v else V (i - 1),A.map (· + 1),f',fun i o' hi ho'=>?_,fun h=>h3 (by cases A <;> simp_all),fun h=>hne4 (by cases A <;> simp_all),fun a ha l hl=>?_,fun a ha=>?_,?_⟩
    ·cases i with
     | zero=>simp at ho';subst ho';exact ⟨hN,.inl ⟨by cases A <;> simp,hv⟩⟩
     | succ i=>
      obtain ⟨g1,g2⟩:=h2 i o' (by omega) (by simpa using ho')
      refine ⟨g1,?_⟩
      rw [key]
      rcases g2 with ⟨g2,g3⟩ | ⟨g2,g3⟩
      ·exact .inl ⟨by cases A <;> simp_all,by simpa using g3⟩
      ·exact .inr ⟨by simp [g2],by simpa using g3⟩
    ·cases A with
     | none=>cases ha
     | some b=>
      simp at ha;subst ha
      have:=h4 b rfl l hl
      simpa using this
    ·cases A with
     | none=>cases ha
     | some b=>have:=h5 b rfl;simp at ha;omega
    ·rw [key];simpa using h6
   ·subst hf
    obtain ⟨h1,V,A,f',h2,h3,hne4,h4,h5,h6⟩:=ih R _ _ hr
    have hA : A = none:=by
     cases A with
     | none=>rfl
     | some a=>exact absurd (hne4 (by simp)) hne
    subst hA
    have hf':=h3 rfl
    subst hf'
    refine ⟨by simp;omega,fun i=>if i = 0 then v else V (i - 1),some 0,f',fun i o' hi ho'=>?_,(fun h=>by cases h),fun _=>rfl,fun a ha l hl=>by cases ha;simpa [lop] using hno l hl,fun a ha=>by cases ha;omega,?_⟩
    ·cases i with
     | zero=>
      simp at ho';subst ho'
      exact ⟨hN,.inr ⟨rfl,hg⟩⟩
     | succ i=>
      obtain ⟨g1,g2⟩:=h2 i o' (by omega) (by simpa using ho')
      refine ⟨g1,?_⟩
      rw [key]
      rcases g2 with ⟨g2,g3⟩ | ⟨g2,_⟩
      ·exact .inl ⟨by simp,by simpa using g3⟩
      ·cases g2
    ·rw [key];simpa using h6
theorem mix3_ok {lt : Option Nat} {ops : Array Oper} {m' : Nat} (hchk : mixChk3 ops m' lt = true) {k : Env → Store → Prop} {C : Ctx} {pub : PHeap} {σ : Sig} {a : Act} {w : World} {Q : Exit → Act → World → Prop}
  (h : WMixT P N (lateO ops lt) (lateT P N (lateO ops lt) k) m' (lopsL (dsts ops.toList) ops.toList) e s []) (hs : SR C pub σ s w) (he : ER pub σ N e a)
  (hk : ∀ e' s' pub' σ' a' w',k e' s' → SR C pub' σ' s' w' → ER pub' σ' N e' a' → Q .normal a' w') (t : Nat) : wpOps P ops Q (Region.schedule true ops t) a w:=by
 unfold mixChk3 at hchk
 rw [Bool.and_eq_true] at hchk
 replace hchk:=hchk.2
 rw [Bool.and_eq_true] at hchk
 obtain ⟨hc1,hc2⟩:=hchk
 rw [Bool.and_eq_true] at hc1
 have hm : m' ≤ ops.size:=by simpa using hc1.1
 have hsz2 : ∀ L,lt = some L → m' < ops.size ∧ L < m' ∧ ∃ d,((ops[L]?).bind (·.dst)) = some d:=fun L h=>by
  have:=hc1.2;rw [h] at this
  simp only [Bool.and_eq_true,decide_eq_true_eq,Option.isSome_iff_exists] at this
  exact ⟨this.1.1,this.1.2,this.2⟩
 rw [List.all_eq_true] at hc2
 have hop : ∀ i,i < ops.size → ∃ o,ops[i]? = some o ∧ (∀ j ∈ edgesOn o,j < i) ∧ (i < m' → (∀ j,j < m' → j ≠ i → o.dst ≠ none → (ops[j]?).map (·.dst) ≠ some o.dst) ∧
   ∀ t ∈ tmpsOf o ++ guardTmp ops o,∀ j,j < m' → (ops[j]?).map (·.dst) = some (some t) → (j < i ∧ reaches ops ops.size i j = true) ∨ (i < j ∧ reaches ops ops.size j i = true)) ∧
   (m' ≤ i → ∀ j,j < i → (i = m' ∧ lt = some j) ∨ reaches ops ops.size i j = true):=by
  intro i hi
  have hx:=hc2 i (List.mem_range.2 hi)
  have ho : ops[i]? = some ops[i]:=Array.getElem?_eq_getElem hi
  rw [ho] at hx
  simp only [Bool.and_eq_true,List.all_eq_true,decide_eq_true_eq] at hx
  obtain ⟨h1,h2⟩:=hx
  refine ⟨ops[i],ho,h1,fun him=>?_,fun him=>?_⟩
  ·rw [if_pos him,Bool.and_eq_true,List.all_eq_true,List.all_eq_true] at h2
   obtain ⟨h3,h4⟩:=h2
   refine ⟨fun j hj hne hsome hd=>?_,fun t ht j hj hd=>?_⟩
   ·have := h3 j (List.mem_range.2 hj)
    rw [hd] at this
    simp only [Bool.or_eq_true,beq_iff_eq,Option.isNone_iff_eq_none] at this
    rcases this with (h5 | h5) | h5
    ·exact hne h5
    ·exact hsome h5
    ·simp at h5
   ·have := h4 t ht
    rw [List.all_eq_true] at this
    have:=this j (List.mem_range.2 hj)
    rw [hd] at this
    simp only [Bool.or_eq_true,Bool.and_eq_true,decide_eq_true_eq] at this
    rcases this with (h5 | h5) | h5
    ·simp at h5
    ·exact .inl h5
    ·exact .inr h5
  ·rw [if_neg (by omega),List.all_eq_true] at h2
   intro j hj
   have h5:=h2 j (List.mem_range.2 hj)
   simp only [Bool.or_eq_true,Bool.and_eq_true,beq_iff_eq] at h5
   exact h5
 obtain ⟨hch,hall⟩:=schedule_chain (fun i o ho j hj=>by
  obtain ⟨o',ho',h3,_⟩:=hop i (arr_lt ho)
  rw [ho] at ho';cases ho';exact h3 j hj) t
 obtain ⟨_,V,A,f',hV,hA0,_,hA9,hA1,⟨hT,hal⟩⟩:=wmixT_vals m' ops.toList e [] h
 obtain ⟨fS,hfS⟩ : ∃ fS : List Nat → Store,fS = filled A f':=⟨_,rfl⟩
 obtain ⟨D,hD⟩ : ∃ D : Nat → Option Tmp,D = fun i=>((ops.toList[i]?).map (·.dst)).getD none:=⟨_,rfl⟩
 rw [← hD] at hV hT hal
 have hDj : ∀ j o,ops[j]? = some o → D j = o.dst:=fun j o ho=>by rw [hD];simp [Array.getElem?_toList,ho]
 have hdist : ∀ i j t,i < m' → j < m' → D i = some t → D j = some t → j = i:=by
  intro i j t hi hj h1 h2
  obtain ⟨o,ho,_,h3,_⟩:=hop i (by omega)
  obtain ⟨o',ho',_⟩:=hop j (by omega)
  rcases Nat.decEq j i with hne | heq
  ·refine absurd ?_ ((h3 hi).1 j hj hne (by rw [← hDj i o ho,h1]; simp))
   rw [ho'];simp only [Option.map_some,Option.some.injEq]
   rw [← hDj j o' ho',← hDj i o ho,h1,h2]
  ·exact heq
 have hfull : ∀ M,M ≤ m' → ∀ S : List Nat,(∀ i ∈ S,i < M) → (∀ i,i < M → i ∈ S) → putsE e D V S = putsE e D V ((List.range M).reverse):=by
  intro M hM S h1 h2
  funext t
  by_cases hex : ∃ j,j < M ∧ D j = some t
  ·obtain ⟨j,hj,hd⟩ := hex
   rw [putsE_same hd (h2 j hj) fun i hi hdi=>hdist j i t (by omega) (by have:=h1 i hi;omega) hd hdi]
   rw [putsE_same hd (by simp [hj]) fun i hi hdi=>hdist j i t (by omega) (Nat.lt_of_lt_of_le (List.mem_range.1 (List.mem_reverse.1 hi)) hM) hd hdi]
  ·rw [putsE_other fun j hj hd=>hex ⟨j,h1 j hj,hd⟩,putsE_other fun j hj hd=>hex ⟨j,by simpa using hj,hd⟩]
 -- the end: one after the other
 have fin : ∀ (l S : List Nat),Chain ops S l → (∀ i,i < ops.size → i ∈ S ∨ i ∈ l) → (∀ i ∈ S,∀ o,ops[i]? = some o → ∀ j ∈ edgesOn o,j ∈ S) → ∀ (i : Nat),m' ≤ i → i ≤ ops.size → (∀ j,j ∈ S ↔ j < i) → ∀ (e : Env) (s : Store) (pub : PHeap) (σ : Sig) (a : Act) (w : World),WOps P N (lopsL (dsts ops.toList) (ops.toList.drop i)) e s k → SR C pub σ s w → ER pub σ N e a → wpOps P ops Q l a w:=by
  intro l
  induction l with
  | nil=>
   intro S hc hcov hcl i hmi his hS e s pub σ a w hW hs he
   have : i = ops.size:=by
    rcases Nat.lt_or_ge i ops.size with h | h
    ·rcases hcov i h with h9 | h9
     ·exact absurd ((hS i).1 h9) (Nat.lt_irrefl _)
     ·cases h9
    ·omega
   rw [List.drop_eq_nil_of_le (by simp;omega)] at hW
   exact hk _ _ _ _ _ _ hW hs he
  | cons q l ih=>
   intro S hc hcov hcl i hmi his hS e s pub σ a w hW hs he
   cases hc with
   | cons hi hn hed hrest=>
    rename_i o
    have hq : q < ops.size:=arr_lt hi
    obtain ⟨o',ho',hlt,_,h4⟩:=hop q hq
    rw [hi] at ho';cases ho'
    have hqi : q = i:=by
     have h5 : ¬ q < i:=fun h=>hn ((hS q).2 h)
     rcases Nat.lt_or_ge i q with h6 | h6
     ·exact absurd ((hS i).1 (reaches_in hcl _ _ _ o hi hed ((h4 (by omega) i h6).resolve_left (fun h=>by omega)))) (Nat.lt_irrefl _)
     ·omega
    subst hqi
    have hdr : ops.toList.drop q = o :: ops.toList.drop (q + 1):=by
     rw [List.drop_eq_getElem_cons (by simpa using hq)]
     have : ops[q] = o:=by rw [Array.getElem?_eq_getElem hq] at hi;exact Option.some.inj hi
     simp [this]
    rw [hdr] at hW
    have hW' : (∀ d,o.dst = some d → d ∈ N) ∧ WG P (lop (dsts ops.toList) o) e s fun v s'=>WOps P N (lopsL (dsts ops.toList) (ops.toList.drop (q + 1))) (e.upd o.dst v) s' k:=by
     simp only [lopsL,WOps] at hW
     unfold WG
     cases hg : (lop (dsts ops.toList) o).g with
     | none=>rw [hg] at hW;exact hW
     | some g=>
      obtain ⟨j,b⟩:=g
      cases j with
      | none=>rw [hg] at hW;exact hW.elim
      | some d=>rw [hg] at hW;exact hW
    obtain ⟨hN,hG⟩:=hW'
    have hS' : ∀ j,j ∈ q :: S ↔ j < q + 1:=fun j=>by
     rw [List.mem_cons,hS j];omega
    have hrun:=WG.run (Q':=Q) (Q:=fun a' w'=>wpOps P ops Q l a' w') hG hN hs he (fun v s' pub' σ' a' w' hk' hs' he'=>
     ih (q :: S) hrest (fun i hi'=>by
      rcases hcov i hi' with h9 | h9
      ·exact .inl (by simp [h9])
      ·rcases List.mem_cons.1 h9 with rfl | h9
       ·exact .inl (by simp)
       ·exact .inr h9) (fun p hp op hop' j hj=>by
      rcases List.mem_cons.1 hp with rfl | hp
      ·rw [hi] at hop';cases hop';exact List.mem_cons_of_mem _ (hed j hj)
      ·exact List.mem_cons_of_mem _ (hcl p hp op hop' j hj)) (q + 1) (by omega) (by omega) hS' _ _ _ _ _ _ hk' hs' he')
    simp only [wpOps,hi]
    split at hrun
    ·rename_i hwt;rw [if_pos hwt];exact .inl hrun
    ·rename_i hwt;rw [if_neg hwt];exact hrun
 have hfSfull : ∀ S : List Nat,(∀ i,i < m' → i ∈ S) → fS S = f':=by
  intro S h
  rw [hfS]
  cases A with
  | none=>exact (hA0 rfl).symm
  | some a=>simp [filled,h a (hA1 a rfl)]
 -- whatever the order
 have key : ∀ (l S : List Nat),Chain ops S l → (∀ i,i < ops.size → i ∈ S ∨ i ∈ l) → (∀ i ∈ S,∀ o,ops[i]? = some o → ∀ j ∈ edgesOn o,j ∈ S) → (∀ i ∈ S,i < m') → ∀ (pub : PHeap) (σ : Sig) (a : Act) (w : World),SR C pub σ (s ++ fS S) w → ER pub σ N (putsE e D V S) a → wpOps P ops Q l a w:=by
  intro l
  induction l with
  | nil=>
   intro S hc hcov hcl hlt pub σ a w hs he
   have hcover : ∀ i,i < m' → i ∈ S:=fun i hi=>by
    rcases hcov i (by omega) with h9 | h9
    ·exact h9
    ·cases h9
   have hmn : m' = ops.size:=by
    rcases Nat.lt_or_ge m' ops.size with h | h
    ·rcases hcov m' h with h9 | h9
     ·exact absurd (hlt _ h9) (Nat.lt_irrefl _)
     ·cases h9
    ·omega
   rw [hfull m' (Nat.le_refl _) S hlt hcover] at he
   rw [hfSfull S hcover] at hs
   exact fin [] S hc hcov hcl m' (Nat.le_refl _) hm (fun j=>⟨hlt j,hcover j⟩) _ _ _ _ _ _ hT hs he
  | cons q l ih=>
   intro S hc hcov hcl hlt pub σ a w hs he
   have hc0:=hc
   cases hc with
   | cons hi hn hed hrest=>
    rename_i o
    have hq : q < ops.size:=arr_lt hi
    obtain ⟨o',ho',hlti,h3,h4⟩:=hop q hq
    rw [hi] at ho';cases ho'
    rcases Nat.lt_or_ge q m' with hqm | hqm
    ·obtain ⟨_,htm⟩ := h3 hqm
     obtain ⟨hN,hG⟩:=hV q o hqm (by rw [Array.getElem?_toList];exact hi)
     have hops : ∀ (s1 : Store) (kk : PV → Store → Prop),WGZ P (lop (dsts ops.toList) o) (putsE e D V ((List.range q).reverse)) s1 kk → WGZ P (lop (dsts ops.toList) o) (putsE e D V S) s1 kk:=fun s1 kk hG=>wgz_congr (e':=putsE e D V S) hG (fun t ht=>by
      by_cases hex : ∃ j,j < m' ∧ D j = some t
      ·obtain ⟨j,hj,hd⟩ := hex
       obtain ⟨oj,hoj,_⟩:=hop j (by omega)
       have hdj : (ops[j]?).map (·.dst) = some (some t):=by rw [hoj];simp only [Option.map_some];rw [← hDj j oj hoj,hd]
       rcases htm t ht j hj hdj with ⟨h5,h6⟩ | ⟨h5,h6⟩
       ·have hjS : j ∈ S := reaches_in hcl _ _ _ o hi hed h6
        rw [putsE_same hd hjS fun p hp hdp=>hdist j p t hj (hlt p hp) hd hdp,putsE_same hd (by simp [h5]) fun p hp hdp=>hdist j p t hj (by simp at hp;omega) hd hdp]
       ·have hjS : j ∉ S := fun hjS => hn (reaches_in hcl _ _ _ oj hoj (hcl j hjS oj hoj) h6)
        rw [putsE_other fun p hp hdp=>by
         have:=hdist j p t hj (by simp at hp;omega) hd hdp
         simp at hp;omega,putsE_other fun p hp hdp=>hjS (hdist j p t hj (hlt p hp) hd hdp ▸ hp)]
      ·rw [putsE_other fun p hp hdp=>hex ⟨p,by simp at hp;omega,hdp⟩,putsE_other fun p hp hdp=>hex ⟨p,hlt p hp,hdp⟩])
     have hG' : WGZ P (lop (dsts ops.toList) o) (putsE e D V S) (s ++ fS S) (fun v' s'=>v' = V q ∧ s' = s ++ fS (q :: S)):=by
      rcases hG with ⟨hA,hG⟩ | ⟨hA,hG⟩
      ·have : fS (q :: S) = fS S := by
        rw [hfS]
        cases A with
        | none=>rfl
        | some b=>
         have hne : ¬ b = q:=fun e=>hA (by rw [e])
         simp [filled,hne]
       rw [this]
       exact hops _ _ (hG (fS S))
      ·have h1 : fS S = [] := by rw [hfS,hA]; simp [filled,hn]
       have h2 : fS (q :: S) = f':=by rw [hfS,hA];simp [filled]
       rw [h1,h2,List.append_nil]
       exact hops _ _ hG.z
     have hrun:=WGZ.run (Q':=Q) (Q:=fun a' w'=>wpOps P ops Q l a' w') hG' hN hs he (fun v s' pub' σ' a' w' hk' hs' he'=>by
      obtain ⟨rfl,rfl⟩:=hk'
      refine ih (q :: S) hrest (fun i hi'=>by
       rcases hcov i hi' with h9 | h9
       ·exact .inl (by simp [h9])
       ·rcases List.mem_cons.1 h9 with rfl | h9
        ·exact .inl (by simp)
        ·exact .inr h9) (fun p hp op hop' j hj=>by
       rcases List.mem_cons.1 hp with rfl | hp
       ·rw [hi] at hop';cases hop';exact List.mem_cons_of_mem _ (hed j hj)
       ·exact List.mem_cons_of_mem _ (hcl p hp op hop' j hj)) (fun p hp=>by
       rcases List.mem_cons.1 hp with rfl | hp
       ·exact hqm
       ·exact hlt p hp) _ _ _ _ hs' ?_
      rw [putsE,hDj q o hi];exact he')
     simp only [wpOps,hi]
     split at hrun
     ·rename_i hwt;rw [if_pos hwt];exact .inl hrun
     ·rename_i hwt;rw [if_neg hwt];exact hrun
    ·by_cases hcover : ∀ j,j < m' → j ∈ S
     ·rw [hfull m' (Nat.le_refl _) S hlt hcover] at he
      rw [hfSfull S hcover] at hs
      exact fin (q :: l) S hc0 hcov hcl m' (Nat.le_refl _) hm (fun j=>⟨hlt j,hcover j⟩) _ _ _ _ _ _ hT hs he
     ·-- one of the first is still to come
      obtain ⟨L,hLm,hLS⟩ : ∃ L,L < m' ∧ L ∉ S:=Classical.byContradiction fun hno=>hcover fun j hj=>Classical.byContradiction fun hjS=>hno ⟨j,hj,hjS⟩
      have hmiss : ∀ j,j < m' → j ∉ S → q = m' ∧ lt = some j:=fun j hj hjS=>(h4 hqm j (by omega)).resolve_right fun hr=>hjS (reaches_in hcl _ _ _ o hi hed hr)
      obtain ⟨rfl,hlt3⟩:=hmiss L hLm hLS
      obtain ⟨hsz,_,dL,hdL⟩:=hsz2 L hlt3
      have hrest2 : ∀ j,j < q → j ≠ L → j ∈ S:=fun j hj hne=>Classical.byContradiction fun hjS=>by
       have:=(hmiss j hj hjS).2
       rw [hlt3] at this;cases this;exact hne rfl
      -- what is left
      have hcl2 : ∀ i ∈ q :: S,∀ o,ops[i]? = some o → ∀ j ∈ edgesOn o,j ∈ q :: S:=fun p hp op hop' j hj=>by
       rcases List.mem_cons.1 hp with rfl | hp
       ·rw [hi] at hop';cases hop';exact List.mem_cons_of_mem _ (hed j hj)
       ·exact List.mem_cons_of_mem _ (hcl p hp op hop' j hj)
      cases hrest with
      | nil=>
       rcases hcov L (by omega) with h | h
       ·exact absurd h hLS
       ·simp at h;omega
      | cons hi2 hn2 hed2 hrest3=>
       rename_i q2 l2 o2
       have hq2:=arr_lt hi2
       have hq2n : ¬ (q2 < q ∧ q2 ≠ L):=fun h=>hn2 (List.mem_cons_of_mem _ (hrest2 q2 h.1 h.2))
       have hq2q : q2 ≠ q:=fun h=>hn2 (by rw [h];simp)
       obtain ⟨o2',ho2',_,_,h42⟩:=hop q2 hq2
       rw [hi2] at ho2';cases ho2'
       have hq2' : q2 = L:=by
        refine Classical.byContradiction fun hno=>?_
        have:=reaches_in hcl2 _ _ _ o2 hi2 hed2 ((h42 (by omega) L (by omega)).resolve_left (fun h=>by omega))
        rcases List.mem_cons.1 this with h | h
        ·omega
        ·exact hLS h
       subst hq2'
       have hdst : o2.dst = some dL:=by rw [hi2] at hdL;simpa using hdL
       have hlate : lateO ops lt = some (lop (dsts ops.toList) o2):=by
        unfold lateO;rw [hlt3];simp [hi2]
       obtain ⟨b,r,g2,g3⟩:=hal _ hlate
       have hDL : D q2 = some dL:=by rw [hDj q2 _ hi2];exact hdst
       have hAne : A ≠ some q2:=fun hAL=>by
        have:=hA9 q2 hAL _ hlate
        have h7 : D q2 = ((ops.toList[q2]?).map (·.dst)).getD none:=by rw [hD]
        exact this (by rw [← h7,hDL];simp [lop,hdst])
       have hfS2 : fS S = f':=by
        rw [hfS]
        cases A with
        | none=>exact (hA0 rfl).symm
        | some a=>
         have h1:=hA1 a rfl
         have h2 : a ≠ q2:=fun h=>hAne (by rw [h])
         simp [filled,hrest2 a h1 h2]
       rw [hfS2] at hs
       have he2 : ER pub σ N ((putsE e D V ((List.range q).reverse)).upd (some dL) .any) a:=by
        refine ⟨he.size,he.defers,he.kept,fun t=>?_⟩
        by_cases ht : t = dL
        ·subst ht;rw [show (putsE e D V ((List.range q).reverse)).upd (some t) .any t = .any by simp [Env.upd]];exact .any
        ·have hx : (putsE e D V ((List.range q).reverse)).upd (some dL) .any t = putsE e D V S t := by
          rw [upd_other (by intro h;cases h;exact ht rfl)]
          by_cases hex : ∃ j,j < q ∧ D j = some t
          ·obtain ⟨j,hj,hd⟩ := hex
           have hjL : j ≠ q2:=by rintro rfl;rw [hDL] at hd;cases hd;exact ht rfl
           rw [putsE_same hd (by simp [hj]) fun i hi hdi=>hdist j i t (by omega) (List.mem_range.1 (List.mem_reverse.1 hi)) hd hdi]
           rw [putsE_same hd (hrest2 j hj hjL) fun i hi hdi=>hdist j i t (by omega) (hlt i hi) hd hdi]
          ·rw [putsE_other fun j hj hd=>hex ⟨j,by simpa using hj,hd⟩,putsE_other fun j hj hd=>hex ⟨j,hlt j hj,hd⟩]
         rw [hx];exact he.rel t
       have hdr : ops.toList.drop q = o :: ops.toList.drop (q + 1):=by
        rw [List.drop_eq_getElem_cons (by simpa using hq)]
        have : ops[q] = o:=by rw [Array.getElem?_eq_getElem hq] at hi;exact Option.some.inj hi
        simp [this]
       rw [hdr] at g2
       simp only [lopsL,List.cons.injEq] at g2
       obtain ⟨rfl,rfl⟩:=g2
       rw [show (lop (dsts ops.toList) o2).d = some dL from hdst] at g3
       have split1 : ∀ (o : Oper) (R : List LOp) (e : Env) (s : Store),WOps P N (lop (dsts ops.toList) o :: R) e s k → (∀ d,o.dst = some d → d ∈ N) ∧ WG P (lop (dsts ops.toList) o) e s fun v s'=>WOps P N R (e.upd o.dst v) s' k:=by
        intro o R e s hW
        simp only [WOps] at hW
        unfold WG
        cases hg : (lop (dsts ops.toList) o).g with
        | none=>rw [hg] at hW;exact hW
        | some g=>
         obtain ⟨j,b⟩:=g
         cases j with
         | none=>rw [hg] at hW;exact hW.elim
         | some d=>rw [hg] at hW;exact hW
       obtain ⟨hN1,hG1⟩:=split1 _ _ _ _ g3
       have hrun:=WG.run (Q':=Q) (Q:=fun a' w'=>wpOps P ops Q (q2 :: l2) a' w') hG1 hN1 hs he2 (fun v s' pub' σ' a' w' hk' hs' he'=>by
        obtain ⟨hN2,hG2⟩:=split1 _ _ _ _ hk'
        have hrun2:=WG.run (Q':=Q) (Q:=fun a' w'=>wpOps P ops Q l2 a' w') hG2 hN2 hs' he' (fun v2 s2 pub2 σ2 a2 w2 hk2 hs2 he3=>
         fin l2 (q2 :: q :: S) hrest3 (fun i hi'=>by
          rcases hcov i hi' with h9 | h9
          ·exact .inl (by simp [h9])
          ·rcases List.mem_cons.1 h9 with rfl | h9
           ·exact .inl (by simp)
           ·rcases List.mem_cons.1 h9 with rfl | h9
            ·exact .inl (by simp)
            ·exact .inr h9) (fun p hp op hop' j hj=>by
          rcases List.mem_cons.1 hp with rfl | hp
          ·rw [hi2] at hop';cases hop';exact List.mem_cons_of_mem _ (hed2 j hj)
          ·exact List.mem_cons_of_mem _ (hcl2 p hp op hop' j hj)) (q + 1) (by omega) (by omega) (fun j=>by
          simp only [List.mem_cons]
          constructor
          ·rintro (rfl | rfl | h)
           ·omega
           ·omega
           ·have:=hlt j h;omega
          ·intro h
           by_cases h1 : j = q2
           ·exact .inl h1
           ·by_cases h2 : j = q
            ·exact .inr (.inl h2)
            ·exact .inr (.inr (hrest2 j (by omega) h1))) _ _ _ _ _ _ hk2 hs2 he3)
        simp only [wpOps,hi2]
        split at hrun2
        ·rename_i hwt;rw [if_pos hwt];exact .inl hrun2
        ·rename_i hwt;rw [if_neg hwt];exact hrun2)
       have hgoal : wpOps P ops Q (q :: q2 :: l2) a w:=by
        simp only [wpOps,hi] at hrun ⊢
        split at hrun
        ·rename_i hwt;rw [if_pos hwt];exact .inl hrun
        ·rename_i hwt;rw [if_neg hwt];exact hrun
       exact hgoal
 exact key _ [] hch (fun i hi=>.inr (hall i hi)) (fun i hi=>by cases hi) (fun i hi=>by cases hi) pub σ a w (by rw [hfS];cases A <;> simpa [filled] using hs) he
theorem EvL.mixk3 {ops : Array Oper} (n : Nat) (lt : Option Nat) (hmix : P.follows .mixedOrders = true) (hchk : mixChk3 ops n lt = true) (h : ∀ k : Env → Store → Prop,(∀ e' s',K .normal e' s' → k e' s') → WMixT P N (lateO ops lt) (lateT P N (lateO ops lt) k) n (lopsL (dsts ops.toList) ops.toList) e s []) : EvL P N m (.drawn ops) e s K:=by
 intro c hc C pub σ a w hm hs he
 cases c <;> simp only [light] at hc <;> first | (cases hc;done) | skip
 rename_i id ops' draw
 cases draw <;> simp only [regL] at hc <;> first | (cases hc;done) | skip
 cases hc
 refine wp_region_draw fun t=>?_
 rw [hmix]
 have hs1 : SR C pub σ s { w with drawn:=w.drawn + 1 }:=hs.drawn rfl rfl rfl rfl
 exact mix3_ok hchk (k:=fun e' s'=>K .normal e' s') (h _ fun _ _ h=>h) hs1 he (fun e' s' pub' σ' a' w' hk hs' he'=>⟨e',s',pub',σ',hk,hs',he'⟩) t
end
end Go.Pv
