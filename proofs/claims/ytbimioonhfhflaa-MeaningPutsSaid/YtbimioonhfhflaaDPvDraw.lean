import Derived.Test.YtbimioonhfhflaaDPvView
set_option linter.unusedVariables false
set_option linter.unusedSimpArgs false
namespace Go.Pv
open Go Go.RowKit
def isRead : Op → Bool
 | .move _ | .assign _ | .pick .. | .load .. | .binOp .. | .unOp .. | .convert .. | .extract .. | .fieldAddr .. | .field .. | .indexAddr .. | .index .. | .slice .. | .build .. | .makeFunc .. | .lookup .. | .nilCheck _=>true
 | .call ⟨.builtin .len,_,_⟩ | .call ⟨.builtin .min,_,_⟩ | .call ⟨.builtin .max,_,_⟩=>true
 | _=>false
section
variable {P : Program} {N : FrN} {m : Nat} {e : Env} {s : Store} {K : Post}
theorem wop_read {o : Oper} {k : PV → Store → Prop} (hr : isRead o.op = true) (h : WOp P o.op e s k) : ReadOK P N o e s k:=by
 obtain ⟨od,op,ot,opos,oaf,og⟩:=o
 cases op <;> simp only [WOp] at h <;> simp only [isRead] at hr <;> first | (cases hr;done) | exact h.elim | skip
 case move x=>exact ok_move (.inl rfl) h
 case assign x=>exact ok_move (.inr rfl) h
 case pick c a b=>obtain ⟨t,h1,h2⟩:=h;exact ok_pick rfl h1 h2
 case build T parts=>obtain ⟨ti,h1,h2⟩:=h;exact ok_build rfl h1 h2
 case load T a=>obtain ⟨ti,h1,h2⟩:=h;exact ok_load rfl h1 h2
 case binOp b T x y T'=>obtain ⟨ti,v,h1,h2,h3⟩:=h;exact ok_binOp rfl h1 h2 h3
 case unOp u T x=>
  cases u <;> simp only at h <;> first | exact h.elim | skip
  ·obtain ⟨kd,n,h1,h2⟩:=h;exact ok_neg rfl h1 h2
  ·obtain ⟨b,h1,h2⟩:=h;exact ok_unOp rfl rfl h1 h2
 case convert T T' x=>obtain ⟨ti,ti',kd,n,v,h1,h2,h3,h4,h5⟩:=h;exact ok_conv rfl h1 h2 h3 h4 h5
 case makeFunc f xs ys=>exact ok_makeFunc rfl h
 case nilCheck x=>exact ok_nilCheck rfl h.1 h.2
 case lookup T x y b=>obtain ⟨ti,kt,et,kti,h1,h2,h3,h4⟩:=h;exact ok_lookup rfl h1 h2 h3 h4
 case slice T x lo hi mx=>
  cases mx with
  | none=>obtain ⟨ti,h1,h2⟩:=h;exact ok_slice rfl h1 h2
  | some mx=>cases hi with
   | none=>exact h.elim
   | some hi=>obtain ⟨ti,h1,h2⟩:=h;exact ok_slice3 rfl h1 h2
 case fieldAddr T x f=>obtain ⟨ti,h1,h2⟩:=h;exact ok_fieldAddr rfl h1 h2
 case field T x f=>obtain ⟨ti,h1,h2⟩:=h;exact ok_field rfl h1 h2
 case indexAddr T x y=>obtain ⟨ti,h1,h2⟩:=h;exact ok_indexAddr rfl h1 h2
 case index T x y=>obtain ⟨ti,h1,h2⟩:=h;exact ok_index rfl h1 h2
 case extract x n=>obtain ⟨vs,v,h1,h2,h3⟩:=h;exact ok_extract rfl h1 h2 h3
 case call c=>
  obtain ⟨cc,cargs,cTs⟩:=c
  obtain ⟨cargs⟩:=cargs
  obtain ⟨cTs⟩:=cTs
  simp only at h
  unfold WCall at h
  split at h
  ·split at h
   ·rename_i x T hx
    cases cargs with
    | nil=>simp at hx
    | cons c0 cr=>
     simp only [List.map_cons,List.cons.injEq,List.map_eq_nil_iff] at hx
     obtain ⟨rfl,rfl⟩:=hx
     obtain ⟨ti,n,h1,h2,h3,h4⟩:=h
     exact ok_len (ty:=0) rfl h1 h2 h3 h4
   ·exact h.elim
  ·split at h
   ·rename_i x y hx
    match cargs,hx with
    | [c0,c1],hx=>
     simp only [List.map_cons,List.map_nil,List.cons.injEq,and_true] at hx
     obtain ⟨h1,h2⟩:=hx
     obtain ⟨kd,m,n,h3,h4,h5⟩:=h
     exact ok_min rfl (h1.trans h3) (h2.trans h4) h5
   ·exact h.elim
  ·split at h
   ·rename_i x y hx
    match cargs,hx with
    | [c0,c1],hx=>
     simp only [List.map_cons,List.map_nil,List.cons.injEq,and_true] at hx
     obtain ⟨h1,h2⟩:=hx
     obtain ⟨kd,m,n,h3,h4,h5⟩:=h
     exact ok_max rfl (h1.trans h3) (h2.trans h4) h5
   ·exact h.elim
  ·simp [isRead] at hr
  ·simp [isRead] at hr
  ·simp [isRead] at hr
  ·simp [isRead] at hr
  ·simp [isRead] at hr
  ·exact h.elim
theorem map_same {ρ ρ' : Operand → Value} {xs : Array Operand} (h : ∀ x ∈ xs,ρ x = ρ' x) : xs.map ρ = xs.map ρ':=Array.map_congr_left fun x hx=>h x hx
theorem exec_same {o : Oper} (hr : isRead o.op = true) {ρ ρ' : Operand → Value} (h : ∀ x ∈ o.op.operands,ρ x = ρ' x) : execOp ρ o = execOp ρ' o:=by
 obtain ⟨od,op,ot,opos,oaf,og⟩:=o
 cases op <;> simp only [isRead] at hr <;> first | (cases hr;done) | skip
 case call c=>
  obtain ⟨cc,cargs,cTs⟩:=c
  have h2 : cargs.map ρ = cargs.map ρ':=map_same fun x hx=>h x (by cases cc <;> simp [Op.operands,Call.operands,hx])
  cases cc with
  | builtin b=>simp [execOp,resolve,h2]
  | value f=>simp [isRead] at hr
  | invoke r n=>simp [isRead] at hr
 case makeFunc f xs ys=>
  have h2 : xs.map ρ = xs.map ρ':=map_same fun x hx=>h x (by simp [Op.operands,hx])
  have h3 : ys.map ρ = ys.map ρ':=map_same fun x hx=>h x (by simp [Op.operands,hx])
  simp [execOp,h2,h3]
 case build T parts=>
  have h2 : (parts.map fun (p : Nat × Operand)=>(p.1,ρ p.2)) = parts.map fun p=>(p.1,ρ' p.2):=Array.map_congr_left fun p hp=>by
   rw [h p.2 (by simp only [Op.operands,List.mem_toArray,List.mem_map];exact ⟨p,by simpa using hp,rfl⟩)]
  simp only [execOp,h2]
 case slice T x lo hi mx=>
  have hx : ρ x = ρ' x:=h x (by simp [Op.operands])
  have h1 : lo.map ρ = lo.map ρ':=by cases lo with | none=>rfl | some y=>simp [h y (by simp [Op.operands])]
  have h2 : hi.map ρ = hi.map ρ':=by cases hi with | none=>rfl | some y=>simp [h y (by simp [Op.operands])]
  have h3 : mx.map ρ = mx.map ρ':=by cases mx with | none=>rfl | some y=>simp [h y (by simp [Op.operands])]
  simp [execOp,hx,h1,h2,h3]
 all_goals (simp [Op.operands] at h;simp [execOp,h])
def edgesOn (o : Oper) : List Nat:=(o.after.toList.filter (Region.binds .any)).map (·.on)
inductive Chain (ops : Array Oper) : List Nat → List Nat → Prop where
 | nil {S} : Chain ops S []
 | cons {S i l o} (hi : ops[i]? = some o) (hn : i ∉ S) (he : ∀ j ∈ edgesOn o,j ∈ S) (h : Chain ops (i :: S) l) : Chain ops S (i :: l)
theorem go_chain (ops : Array Oper) (hlt : ∀ (i : Nat) (o : Oper),ops[i]? = some o → ∀ j ∈ edgesOn o,j < i) : ∀ (fuel t : Nat) (listed : Array Bool) (acc S : List Nat),listed.size = ops.size →
  (∀ i,i < ops.size → listed.getD i true = decide (i ∈ S) ∧ listed.getD i false = decide (i ∈ S)) → ((List.range ops.size).filter fun i=>decide (i ∉ S)).length ≤ fuel →
  ∃ l,Region.linearise.go .any ops fuel t listed acc = acc.reverse ++ l ∧ Chain ops S l ∧ ∀ i,i < ops.size → i ∈ S ∨ i ∈ l:=by
 intro fuel
 induction fuel with
 | zero=>
  intro t listed acc S hsz hl hc
  refine ⟨[],by simp [Region.linearise.go],.nil,fun i hi=>.inl ?_⟩
  have h0 : (List.range ops.size).filter (fun i=>decide (i ∉ S)) = []:=List.length_eq_zero_iff.1 (by omega)
  rw [List.filter_eq_nil_iff] at h0
  have:=h0 i (List.mem_range.2 hi)
  simpa using this
 | succ fuel ih=>
  intro t listed acc S hsz hl hc
  obtain ⟨rs,hrs⟩ : ∃ rs,rs = (List.range ops.size).filter fun i=>!listed.getD i true && ((ops[i]?).map (·.after.all fun e=>!Region.binds .any e || listed.getD e.on false)).getD false:=⟨_,rfl⟩
  have hmem : ∀ i,i ∈ rs ↔ i < ops.size ∧ i ∉ S ∧ ∃ o,ops[i]? = some o ∧ ∀ j ∈ edgesOn o,j ∈ S:=by
   intro i
   rw [hrs,List.mem_filter,List.mem_range]
   constructor
   ·rintro ⟨hi,hx⟩
    rw [Bool.and_eq_true] at hx
    obtain ⟨hx1,hx2⟩:=hx
    rw [(hl i hi).1] at hx1
    have ho : ops[i]? = some ops[i]:=Array.getElem?_eq_getElem hi
    rw [ho] at hx2
    simp only [Option.map_some,Option.getD_some] at hx2
    refine ⟨hi,by simpa using hx1,ops[i],ho,fun j hj=>?_⟩
    simp only [edgesOn,List.mem_map,List.mem_filter] at hj
    obtain ⟨ed,⟨he1,he2⟩,rfl⟩:=hj
    have hlt':=hlt i ops[i] ho ed.on (by simp only [edgesOn,List.mem_map,List.mem_filter];exact ⟨ed,⟨he1,he2⟩,rfl⟩)
    rw [Array.all_eq_true'] at hx2
    have hx3:=hx2 ed (by simpa using he1)
    rw [he2,(hl ed.on (by omega)).2] at hx3
    simpa using hx3
   ·rintro ⟨hi,hn,o,ho,he⟩
    refine ⟨hi,?_⟩
    rw [Bool.and_eq_true]
    refine ⟨by rw [(hl i hi).1];simpa using hn,?_⟩
    rw [ho]
    simp only [Option.map_some,Option.getD_some]
    rw [Array.all_eq_true']
    intro ed hed
    by_cases hb : Region.binds .any ed = true
    ·have hin : ed.on ∈ edgesOn o := by simp only [edgesOn,List.mem_map,List.mem_filter]; exact ⟨ed,⟨by simpa using hed,hb⟩,rfl⟩
     have hlt':=hlt i o ho ed.on hin
     rw [(hl ed.on (by omega)).2]
     simp [he _ hin]
    ·simp [hb]
  unfold Region.linearise.go
  simp only [← hrs]
  cases hx : rs[t % rs.length]? with
  | none=>
   have hnil : rs = []:=by
    cases hr : rs with
    | nil=>rfl
    | cons x xs=>
     rw [hr] at hx
     have : t % (x :: xs).length < (x :: xs).length:=Nat.mod_lt _ (by simp)
     rw [List.getElem?_eq_getElem this] at hx;cases hx
   refine ⟨[],by simp,.nil,fun i hi=>.inl ?_⟩
   induction i using Nat.strongRecOn with
   | _ i ih2=>
    rcases Classical.em (i ∈ S) with h | h
    ·exact h
    ·have ho : ops[i]? = some ops[i] := Array.getElem?_eq_getElem hi
     have : i ∈ rs:=(hmem i).2 ⟨hi,h,ops[i],ho,fun j hj=>ih2 j (hlt i _ ho j hj) (by have:=hlt i _ ho j hj;omega)⟩
     rw [hnil] at this;cases this
  | some i=>
   have hin:=(hmem i).1 (List.mem_of_getElem? hx)
   obtain ⟨hi,hn,o,ho,he⟩:=hin
   have hl' : ∀ k,k < ops.size → (listed.setIfInBounds i true).getD k true = decide (k ∈ i :: S) ∧ (listed.setIfInBounds i true).getD k false = decide (k ∈ i :: S):=by
    intro k hk
    have h1:=hl k hk
    simp only [Array.getD_eq_getD_getElem?,Array.getElem?_setIfInBounds,hsz] at h1 ⊢
    by_cases e : i = k
    ·subst e;simp [hi]
    ·have e' : ¬ k = i := fun h => e h.symm
     simp [e,e',h1.1,h1.2]
   have hlen : ((List.range ops.size).filter fun k=>decide (k ∉ i :: S)).length < ((List.range ops.size).filter fun k=>decide (k ∉ S)).length:=by
    have e1 : ((List.range ops.size).filter fun k=>decide (k ∉ i :: S)) = ((List.range ops.size).filter fun k=>decide (k ∉ S)).filter fun k=>decide (k ≠ i):=by
     rw [List.filter_filter]
     congr 1;funext k;simp [not_or]
    rw [e1,List.length_filter_lt_length_iff_exists]
    exact ⟨i,by simp [hi,hn],by simp⟩
   obtain ⟨l,h1,h2,h3⟩:=ih (t / rs.length) (listed.setIfInBounds i true) (i :: acc) (i :: S) (by simp [hsz]) hl' (by omega)
   refine ⟨i :: l,by simp [h1],.cons ho hn he h2,fun k hk=>?_⟩
   rcases h3 k hk with h | h
   ·rcases List.mem_cons.1 h with rfl | h
    ·exact .inr (by simp)
    ·exact .inl h
   ·exact .inr (by simp [h])
theorem schedule_chain {ops : Array Oper} (hlt : ∀ (i : Nat) (o : Oper),ops[i]? = some o → ∀ j ∈ edgesOn o,j < i) (t : Nat) : Chain ops [] (Region.schedule true ops t) ∧ ∀ i,i < ops.size → i ∈ Region.schedule true ops t:=by
 have h0 : Region.schedule true ops t = Region.linearise .any ops t:=by simp [Region.schedule]
 obtain ⟨l,h1,h2,h3⟩:=go_chain ops hlt ops.size t (Array.replicate ops.size false) [] [] (by simp) (fun i hi=>by simp [hi]) (by
  refine Nat.le_trans (List.length_filter_le _ _) ?_;simp)
 rw [h0,Region.linearise,h1]
 exact ⟨by simpa using h2,fun i hi=>by simpa using h3 i hi⟩
def actsL : Act → List (Option Tmp) → List Value → Nat → Act
 | a,d :: ds,c :: cs,i + 1=>actsL (a.put d c) ds cs i
 | a,_,_,_=>a
theorem put_size (a : Act) (d : Option Tmp) (c : Value) : (a.put d c).tmps.size = a.tmps.size ∧ (a.put d c).defers = a.defers:=by cases d <;> simp [Act.put]
theorem put_same (a : Act) (t : Tmp) (c : Value) (h : t < a.tmps.size) : (a.put (some t) c).tmps.getD t undef = c:=by simp [Act.put,Array.getD,h]
theorem put_other (a : Act) (d : Option Tmp) (t : Tmp) (c : Value) (h : d ≠ some t) : (a.put d c).tmps.getD t undef = a.tmps.getD t undef:=by
 cases d with
 | none=>rfl
 | some d=>
  have : d ≠ t:=fun e=>h (by rw [e])
  simp only [Act.put,Array.getD_eq_getD_getElem?,Array.getElem?_setIfInBounds]
  rw [if_neg this]
def putsL (a : Act) (D : Nat → Option Tmp) (C : Nat → Value) : List Nat → Act
 | []=>a
 | i :: S=>(putsL a D C S).put (D i) (C i)
theorem putsL_size (a : Act) (D : Nat → Option Tmp) (C : Nat → Value) (S : List Nat) : (putsL a D C S).tmps.size = a.tmps.size ∧ (putsL a D C S).defers = a.defers:=by
 induction S with
 | nil=>exact ⟨rfl,rfl⟩
 | cons i S ih=>have:=put_size (putsL a D C S) (D i) (C i);exact ⟨this.1.trans ih.1,this.2.trans ih.2⟩
theorem putsL_other {a : Act} {D : Nat → Option Tmp} {C : Nat → Value} {t : Tmp} : ∀ {S : List Nat},(∀ j ∈ S,D j ≠ some t) → (putsL a D C S).tmps.getD t undef = a.tmps.getD t undef:=by
 intro S
 induction S with
 | nil=>intro _;rfl
 | cons i S ih=>intro h;rw [putsL,put_other _ _ _ _ (h i (by simp))];exact ih fun j hj=>h j (by simp [hj])
theorem putsL_same {a : Act} {D : Nat → Option Tmp} {C : Nat → Value} {t : Tmp} {i : Nat} (hd : D i = some t) (ht : t < a.tmps.size) : ∀ {S : List Nat},i ∈ S → (∀ j ∈ S,D j = some t → j = i) → (putsL a D C S).tmps.getD t undef = C i:=by
 intro S
 induction S with
 | nil=>intro h;cases h
 | cons k S ih=>
  intro hi hu
  by_cases hk : D k = some t
  ·have := hu k (by simp) hk
   subst this
   rw [putsL,hd,put_same _ _ _ (by rw [(putsL_size a D C S).1];exact ht)]
  ·rw [putsL,put_other _ _ _ _ hk]
   refine ih ?_ fun j hj=>hu j (by simp [hj])
   rcases List.mem_cons.1 hi with rfl | h
   ·exact absurd hd hk
   ·exact h
theorem act_ext {a b : Act} (h1 : a.tmps.size = b.tmps.size) (h2 : a.defers = b.defers) (h : ∀ t,a.tmps.getD t undef = b.tmps.getD t undef) : a = b:=by
 obtain ⟨ta,da⟩:=a
 obtain ⟨tb,db⟩:=b
 simp only at h1 h2 h
 subst h2
 congr 1
 apply Array.ext h1
 intro i hi hi'
 have:=h i
 simpa [Array.getD,hi,hi'] using this
def reaches (ops : Array Oper) : Nat → Nat → Nat → Bool
 | 0,_,_=>false
 | n + 1,i,j=>match ops[i]? with
  | some o=>(edgesOn o).any fun k=>k == j || reaches ops n k j
  | none=>false
theorem reaches_in {ops : Array Oper} {S : List Nat} (hS : ∀ i ∈ S,∀ o,ops[i]? = some o → ∀ j ∈ edgesOn o,j ∈ S) : ∀ (n i j : Nat) (o : Oper),ops[i]? = some o → (∀ j ∈ edgesOn o,j ∈ S) → reaches ops n i j = true → j ∈ S:=by
 intro n
 induction n with
 | zero=>intro i j o _ _ h;cases h
 | succ n ih=>
  intro i j o ho he h
  simp only [reaches,ho,List.any_eq_true] at h
  obtain ⟨k,hk,h⟩:=h
  have hkS:=he k hk
  rw [Bool.or_eq_true] at h
  rcases h with h | h
  ·have : k = j := by simpa using h
   subst this;exact hkS
  ·cases hok : ops[k]? with
   | none=>cases n <;> simp [reaches,hok] at h
   | some ok=>exact ih k j ok hok (hS k hkS ok hok) h
def tmpsOf (o : Oper) : List Tmp:=o.op.operands.toList.filterMap fun | .tmp t=>some t | _=>none
def drawChk (ops : Array Oper) (m : Nat) : Bool:=
 (m == ops.size || (m + 1 == ops.size && (List.range m).all fun j=>reaches ops ops.size m j)) &&
 (List.range ops.size).all fun i=>match ops[i]? with
  | none=>false
  | some o=>o.guard.isNone && (edgesOn o).all (fun j=>decide (j < i)) &&
   (decide (m ≤ i) || isRead o.op && o.dst.isSome && (List.range m).all (fun j=>j == i || !((ops[j]?).map (·.dst) == some o.dst))) &&
   (tmpsOf o).all fun t=>(List.range m).all fun j=>!((ops[j]?).map (·.dst) == some (some t)) || (decide (j < i) && reaches ops ops.size i j) || (decide (i < j) && reaches ops ops.size j i)
theorem wops_split {ds : List (Option Nat)} (R T : List Oper) (k : Env → Store → Prop) : ∀ (e : Env) (a : Act) {C : Ctx} {pub : PHeap} {σ : Sig} {w : World},(∀ o ∈ R,o.guard = none ∧ isRead o.op = true) → WOps P N (lopsL ds (R ++ T)) e s k → SR C pub σ s w → ER pub σ N e a →
  ∃ cs : List Value,cs.length = R.length ∧ (∀ (i : Nat) (o : Oper) (c : Value),R[i]? = some o → cs[i]? = some c → (execOp (actsL a (R.map (·.dst)) cs i).eval o).run P w = .ok (.value c) w) ∧
   ∃ e',ER pub σ N e' (actsL a (R.map (·.dst)) cs R.length) ∧ WOps P N (lopsL ds T) e' s k:=by
 induction R with
 | nil=>intro e a C pub σ w _ h hs he;exact ⟨[],rfl,fun i o c h=>by simp at h,e,he,h⟩
 | cons o R ih=>
  intro e a C pub σ w hR h hs he
  obtain ⟨hg,hr⟩:=hR o (by simp)
  simp only [List.cons_append,lopsL,lop,hg,WOps] at h
  obtain ⟨hN,h⟩:=h
  obtain ⟨v,cv,hk,hrel,hrun⟩:=wop_read (N:=N) hr h C pub σ a w hs he
  obtain ⟨cs,h1,h2,e',h3,h4⟩:=ih _ (a.put o.dst cv) (fun o ho=>hR o (by simp [ho])) hk hs (he.put _ hN hrel)
  refine ⟨cv :: cs,by simp [h1],fun i o' c hi hc=>?_,e',by simpa [actsL] using h3,h4⟩
  cases i with
  | zero=>simp at hi hc;subst hi hc;simpa [actsL] using hrun
  | succ i=>simpa [actsL] using h2 i o' c (by simpa using hi) (by simpa using hc)
theorem actsL_puts : ∀ (ds : List (Option Tmp)) (cs : List Value) (a : Act) (i : Nat),cs.length = ds.length → i ≤ ds.length → ∀ (D : Nat → Option Tmp) (Cf : Nat → Value),(∀ j,j < ds.length → ds[j]? = some (D j) ∧ cs[j]? = some (Cf j)) →
  actsL a ds cs i = putsL a D Cf ((List.range i).reverse):=by
 intro ds cs a i hl hi D Cf h
 induction i with
 | zero=>cases ds <;> cases cs <;> rfl
 | succ i ih=>
  rw [List.range_succ,List.reverse_append]
  simp only [List.reverse_cons,List.reverse_nil,List.nil_append,List.cons_append,putsL]
  rw [← ih (by omega)]
  obtain ⟨h1,h2⟩:=h i (by omega)
  clear h ih
  generalize D i = dd at *
  generalize Cf i = cc at *
  induction i generalizing ds cs a with
  | zero=>
   cases ds with
   | nil=>simp at h1
   | cons d ds=>cases cs with
    | nil=>simp at h2
    | cons c cs=>simp at h1 h2;subst h1 h2;cases ds <;> cases cs <;> simp [actsL]
  | succ i ih2=>
   cases ds with
   | nil=>simp at h1
   | cons d ds=>cases cs with
    | nil=>simp at h2
    | cons c cs=>simpa [actsL] using ih2 ds cs (a.put d c) (by simpa using hl) (by simp at hi;omega) (by simpa using h1) (by simpa using h2)
theorem arr_lt {α : Type} {l : Array α} {i : Nat} {x : α} (h : l[i]? = some x) : i < l.size:=by
 rcases Nat.lt_or_ge i l.size with h' | h'
 ·exact h'
 ·simp [Array.getElem?_eq_none h'] at h
theorem draw_ok {ops : Array Oper} {m' : Nat} (hchk : drawChk ops m' = true) {k : Env → Store → Prop} {C : Ctx} {pub : PHeap} {σ : Sig} {a : Act} {w : World} {Q : Exit → Act → World → Prop}
  (h : WOps P N (lopsL (dsts ops.toList) ops.toList) e s k) (hs : SR C pub σ s w) (he : ER pub σ N e a)
  (hk : ∀ e' s' pub' σ' a' w',k e' s' → SR C pub' σ' s' w' → ER pub' σ' N e' a' → Q .normal a' w') (t : Nat) : wpOps P ops Q (Region.schedule true ops t) a w:=by
 unfold drawChk at hchk
 rw [Bool.and_eq_true] at hchk
 obtain ⟨hc1,hc2⟩:=hchk
 rw [List.all_eq_true] at hc2
 have hop : ∀ i,i < ops.size → ∃ o,ops[i]? = some o ∧ o.guard = none ∧ (∀ j ∈ edgesOn o,j < i) ∧ (m' ≤ i ∨ (isRead o.op = true ∧ o.dst.isSome = true ∧ ∀ j,j < m' → j ≠ i → (ops[j]?).map (·.dst) ≠ some o.dst)) ∧
   ∀ t ∈ tmpsOf o,∀ j,j < m' → (ops[j]?).map (·.dst) = some (some t) → (j < i ∧ reaches ops ops.size i j = true) ∨ (i < j ∧ reaches ops ops.size j i = true):=by
  intro i hi
  have hx:=hc2 i (List.mem_range.2 hi)
  have ho : ops[i]? = some ops[i]:=Array.getElem?_eq_getElem hi
  rw [ho] at hx
  simp only [Bool.and_eq_true,Bool.or_eq_true,List.all_eq_true,decide_eq_true_eq,List.mem_range,Option.isNone_iff_eq_none] at hx
  obtain ⟨⟨⟨h1,h2⟩,h3⟩,h4⟩:=hx
  refine ⟨ops[i],ho,h1,h2,?_,fun t ht j hj hd=>?_⟩
  ·rcases h3 with h3 | h3
   ·exact .inl h3
   ·refine .inr ⟨h3.1.1,h3.1.2,fun j hj hne hd => ?_⟩
    have:=h3.2 j hj
    rcases this with h5 | h5
    ·exact hne (by simpa using h5)
    ·rw [hd] at h5;exact absurd h5 (by simp)
  ·have := h4 t ht j hj
   rcases this with (h5 | h5) | h5
   ·rw [hd] at h5;exact absurd h5 (by simp)
   ·exact .inl h5
   ·exact .inr h5
 have hm : m' ≤ ops.size:=by
  rw [Bool.or_eq_true] at hc1
  rcases hc1 with h1 | h1
  ·have : m' = ops.size := by simpa using h1
   omega
  ·rw [Bool.and_eq_true] at h1
   have : m' + 1 = ops.size:=by simpa using h1.1
   omega
 obtain ⟨hch,hall⟩:=schedule_chain (fun i o ho j hj=>by
  obtain ⟨o',ho',_,h3,_⟩:=hop i (arr_lt ho)
  rw [ho] at ho';cases ho';exact h3 j hj) t
 -- the run in the text's order
 have hsplit : ops.toList = ops.toList.take m' ++ ops.toList.drop m':=(List.take_append_drop _ _).symm
 have hR : ∀ o ∈ ops.toList.take m',o.guard = none ∧ isRead o.op = true:=by
  intro o ho
  obtain ⟨i,hi⟩:=List.mem_iff_getElem?.1 ho
  rw [List.getElem?_take] at hi
  split at hi
  ·rename_i him
   rw [Array.getElem?_toList] at hi
   obtain ⟨o',ho',h2,_,h3,_⟩:=hop i (by omega)
   rw [hi] at ho';cases ho'
   exact ⟨h2,by rcases h3 with h3 | h3;omega;exact h3.1⟩
  ·cases hi
 have h' : WOps P N (lopsL (dsts ops.toList) (ops.toList.take m' ++ ops.toList.drop m')) e s k:=by rw [← hsplit];exact h
 obtain ⟨cs,hcl,hrun,e',he',hT⟩:=wops_split _ _ k e a hR h' hs he
 have hlen : (ops.toList.take m').length = m':=by simp;omega
 rw [hlen] at hcl he'
 obtain ⟨D,hD⟩ : ∃ D : Nat → Option Tmp,D = fun i=>((ops[i]?).map (·.dst)).getD none:=⟨_,rfl⟩
 obtain ⟨Cf,hCf⟩ : ∃ Cf : Nat → Value,Cf = fun i=>cs.getD i undef:=⟨_,rfl⟩
 have hDC : ∀ j,j < ((ops.toList.take m').map (·.dst)).length → ((ops.toList.take m').map (·.dst))[j]? = some (D j) ∧ cs[j]? = some (Cf j):=by
  intro j hj
  have hj' : j < m':=by rw [List.length_map,hlen] at hj;exact hj
  have ho : ops[j]? = some (ops[j]'(by omega)):=Array.getElem?_eq_getElem _
  refine ⟨?_,?_⟩
  ·rw [List.getElem?_map,List.getElem?_take,if_pos hj',Array.getElem?_toList,ho,hD];simp [ho]
  ·rw [hCf];simp [List.getElem?_eq_getElem (show j < cs.length by omega)]
 have hacts : ∀ i,i ≤ m' → actsL a ((ops.toList.take m').map (·.dst)) cs i = putsL a D Cf ((List.range i).reverse):=fun i hi=>
  actsL_puts _ _ _ _ (by simp;omega) (by simp;omega) D Cf hDC
 have hDj : ∀ j o,ops[j]? = some o → D j = o.dst:=fun j o ho=>by rw [hD];simp [ho]
 have hdist : ∀ i j t,i < m' → j < m' → D i = some t → D j = some t → j = i:=by
  intro i j t hi hj h1 h2
  obtain ⟨o,ho,_,_,h3,_⟩:=hop i (by omega)
  obtain ⟨o',ho',_⟩:=hop j (by omega)
  rcases Nat.decEq j i with hne | heq
  ·rcases h3 with h3 | h3
   ·omega
   ·refine absurd ?_ (h3.2.2 j hj hne)
    rw [ho'];simp only [Option.map_some,Option.some.injEq]
    rw [← hDj j o' ho',← hDj i o ho,h1,h2]
  ·exact heq
 have hrun' : ∀ i o,i < m' → ops[i]? = some o → (execOp (putsL a D Cf ((List.range i).reverse)).eval o).run P w = .ok (.value (Cf i)) w:=by
  intro i o hi ho
  have:=hrun i o (Cf i) (by rw [List.getElem?_take,if_pos hi,Array.getElem?_toList];exact ho) (hDC i (by rw [List.length_map,hlen];exact hi)).2
  rwa [hacts i (by omega)] at this
 rw [hacts m' (Nat.le_refl _)] at he'
 -- whatever the order
 have key : ∀ (S l : List Nat),Chain ops S l → (∀ i,i < ops.size → i ∈ S ∨ i ∈ l) → (∀ i ∈ S,∀ o,ops[i]? = some o → ∀ j ∈ edgesOn o,j ∈ S) → (∀ i ∈ S,i < m') → wpOps P ops Q l (putsL a D Cf S) w:=by
  intro S l hchn
  have hfull : ∀ S : List Nat,(∀ i ∈ S,i < m') → (∀ i,i < m' → i ∈ S) → putsL a D Cf S = putsL a D Cf ((List.range m').reverse):=by
   intro S h1 h2
   refine act_ext ((putsL_size _ _ _ _).1.trans (putsL_size _ _ _ _).1.symm) ((putsL_size _ _ _ _).2.trans (putsL_size _ _ _ _).2.symm) fun t=>?_
   by_cases hex : ∃ j,j < m' ∧ D j = some t
   ·obtain ⟨j,hj,hd⟩ := hex
    rcases Nat.lt_or_ge t a.tmps.size with ht | ht
    ·rw [putsL_same hd ht (h2 j hj) fun i hi hdi=>hdist j i t hj (h1 i hi) hd hdi,putsL_same hd ht (by simp [hj]) fun i hi hdi=>hdist j i t hj (by simpa using hi) hd hdi]
    ·have z1 := (putsL_size a D Cf S).1
     have z2:=(putsL_size a D Cf ((List.range m').reverse)).1
     rw [Array.getD_eq_getD_getElem?,Array.getD_eq_getD_getElem?,Array.getElem?_eq_none (by omega),Array.getElem?_eq_none (by omega)]
   ·rw [putsL_other fun j hj hd=>hex ⟨j,h1 j hj,hd⟩,putsL_other fun j hj hd=>hex ⟨j,by simpa using hj,hd⟩]
  induction hchn with
  | nil=>
   rename_i S
   intro hcov hcl2 hlt
   have hmn : m' = ops.size:=by
    rcases Nat.lt_or_ge m' ops.size with h | h
    ·rcases hcov m' h with h9 | h9
     ·exact absurd (hlt _ h9) (Nat.lt_irrefl _)
     ·cases h9
    ·omega
   have hcover : ∀ i,i < m' → i ∈ S:=fun i hi=>by
    rcases hcov i (by omega) with h9 | h9
    ·exact h9
    ·cases h9
   rw [hfull S hlt hcover]
   have hTn : ops.toList.drop m' = []:=List.drop_eq_nil_of_le (by simp;omega)
   rw [hTn] at hT
   exact hk e' s pub σ _ w hT hs he'
  | cons hi hn hed hrest ih=>
   rename_i S i l o
   intro hcov hcl2 hlt
   have hisz : i < ops.size:=arr_lt hi
   obtain ⟨o',ho',hg,hlti,hread,htm⟩:=hop i hisz
   rw [hi] at ho';cases ho'
   simp only [wpOps,hi]
   have hw : Region.wanted o (yielded ops (putsL a D Cf S).tmps) = true:=by simp [Region.wanted,hg]
   rw [if_pos hw]
   rcases Nat.lt_or_ge i m' with him | him
   ·-- it only reads
    have hr : isRead o.op = true:=by rcases hread with h9 | h9;omega;exact h9.1
    have hsame : ∀ x ∈ o.op.operands,(putsL a D Cf S).eval x = (putsL a D Cf ((List.range i).reverse)).eval x:=by
     intro x hx
     cases x with
     | tmp t=>
      have htin : t ∈ tmpsOf o:=by
       simp only [tmpsOf,List.mem_filterMap]
       exact ⟨.tmp t,by simpa using hx,rfl⟩
      show (putsL a D Cf S).tmps.getD t undef = (putsL a D Cf ((List.range i).reverse)).tmps.getD t undef
      by_cases hex : ∃ j,j < m' ∧ D j = some t
      ·obtain ⟨j,hj,hd⟩ := hex
       obtain ⟨oj,hoj,_⟩:=hop j (by omega)
       have hdj : (ops[j]?).map (·.dst) = some (some t):=by rw [hoj];simp only [Option.map_some];rw [← hDj j oj hoj,hd]
       rcases htm t htin j hj hdj with ⟨h5,h6⟩ | ⟨h5,h6⟩
       ·have hjS : j ∈ S := reaches_in hcl2 _ _ _ o hi hed h6
        rcases Nat.lt_or_ge t a.tmps.size with ht | ht
        ·rw [putsL_same hd ht hjS fun q hq hdq=>hdist j q t hj (hlt q hq) hd hdq,putsL_same hd ht (by simp [h5]) fun q hq hdq=>hdist j q t hj (by simp at hq;omega) hd hdq]
        ·have z1 := (putsL_size a D Cf S).1
         have z2:=(putsL_size a D Cf ((List.range i).reverse)).1
         rw [Array.getD_eq_getD_getElem?,Array.getD_eq_getD_getElem?,Array.getElem?_eq_none (by omega),Array.getElem?_eq_none (by omega)]
       ·have hjS : j ∉ S := fun hjS => hn (reaches_in hcl2 _ _ _ oj hoj (hcl2 j hjS oj hoj) h6)
        rw [putsL_other fun q hq hdq=>hjS (hdist j q t hj (hlt q hq) hd hdq ▸ hq),putsL_other fun q hq hdq=>by
         have:=hdist j q t hj (by simp at hq;omega) hd hdq
         simp at hq;omega]
      ·rw [putsL_other fun q hq hdq=>hex ⟨q,hlt q hq,hdq⟩,putsL_other fun q hq hdq=>hex ⟨q,by simp at hq;omega,hdq⟩]
     | const v=>rfl
     | global g=>rfl
     | func f=>rfl
    refine .inl (wp_value (v:=Cf i) (w':=w) ?_ ?_)
    ·rw [exec_same hr hsame];exact hrun' i o him hi
    ·have := ih (fun q hq => by
      rcases hcov q hq with h9 | h9
      ·exact .inl (by simp [h9])
      ·rcases List.mem_cons.1 h9 with rfl | h9
       ·exact .inl (by simp)
       ·exact .inr h9) (fun q hq oq hoq j hj=>by
      rcases List.mem_cons.1 hq with rfl | hq
      ·rw [hi] at hoq;cases hoq;exact List.mem_cons_of_mem _ (hed j hj)
      ·exact List.mem_cons_of_mem _ (hcl2 q hq oq hoq j hj)) (fun q hq=>by
      rcases List.mem_cons.1 hq with rfl | hq
      ·exact him
      ·exact hlt q hq)
     rw [putsL,hDj i o hi] at this
     exact this
   ·-- the last one
    rw [Bool.or_eq_true] at hc1
    have hc1' : m' + 1 = ops.size ∧ ∀ j,j < m' → reaches ops ops.size m' j = true:=by
     rcases hc1 with h1 | h1
     ·have : m' = ops.size := by simpa using h1
      omega
     ·rw [Bool.and_eq_true,List.all_eq_true] at h1
      exact ⟨by simpa using h1.1,fun j hj=>h1.2 j (List.mem_range.2 hj)⟩
    have : i = m':=by omega
    subst this
    have hcover : ∀ j,j < i → j ∈ S:=fun j hj=>reaches_in hcl2 _ _ _ o hi hed (hc1'.2 j hj)
    have hrest0 : l = []:=by
     cases hrest with
     | nil=>rfl
     | cons hi2 hn2 he2 hr2=>
      rename_i q l2 oq
      have hq : q < ops.size:=arr_lt hi2
      refine absurd ?_ hn2
      rcases Nat.lt_or_ge q i with h9 | h9
      ·exact List.mem_cons_of_mem _ (hcover q h9)
      ·have : q = i := by omega
       simp [this]
    subst hrest0
    rw [hfull S hlt hcover]
    have hTn : ops.toList.drop i = [o]:=by
     rw [List.drop_eq_getElem_cons (by simpa using hisz),List.drop_eq_nil_of_le (by simp;omega)]
     have : ops[i] = o:=by rw [Array.getElem?_eq_getElem hisz] at hi;exact Option.some.inj hi
     simp [this]
    rw [hTn] at hT
    simp only [lopsL,lop,hg,WOps] at hT
    obtain ⟨hN,hW⟩:=hT
    refine .inl (wop_ok (N:=N) hW C pub σ _ w _ _ hs he' ?_)
    intro v s' cv pub' σ' w' hk' hs' he'' hr'
    exact hk _ _ _ _ _ _ hk' hs' (he''.put _ hN hr')
 exact key [] _ hch (fun i hi=>.inr (hall i hi)) (fun i hi=>by cases hi) (fun i hi=>by cases hi)
theorem EvL.drawn {ops : Array Oper} (m' : Nat) (hmix : P.follows .mixedOrders = true) (hchk : drawChk ops m' = true) (h : WOps P N (lopsL (dsts ops.toList) ops.toList) e s fun e' s'=>K .normal e' s') : EvL P N m (.drawn ops) e s K:=by
 intro c hc C pub σ a w hm hs he
 cases c <;> simp only [light] at hc <;> first | (cases hc;done) | skip
 rename_i id ops' draw
 cases draw <;> simp only [regL] at hc <;> first | (cases hc;done) | skip
 cases hc
 refine wp_region_draw fun t=>?_
 rw [hmix]
 have hs1 : SR C pub σ s { w with drawn:=w.drawn + 1 }:=hs.drawn rfl rfl rfl rfl
 exact draw_ok hchk (k:=fun e' s'=>K .normal e' s') h hs1 he (fun e' s' pub' σ' a' w' hk hs' he'=>⟨e',s',pub',σ',hk,hs',he'⟩) t
def drawM (ops : Array Oper) : Nat:=if drawChk ops ops.size then ops.size else ops.size - 1
theorem EvL.drawnk {ops : Array Oper} (hmix : P.follows .mixedOrders = true) (hchk : drawChk ops (drawM ops) = true) (h : ∀ k : Env → Store → Prop,(∀ e' s',K .normal e' s' → k e' s') → WOps P N (lopsL (dsts ops.toList) ops.toList) e s k) : EvL P N m (.drawn ops) e s K:=
 .drawn _ hmix hchk (h _ fun _ _ h=>h)
end
end Go.Pv
