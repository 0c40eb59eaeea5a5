import Derived.Test.YtbimioonhfhflaaDPvQ
set_option linter.unusedVariables false
set_option linter.unusedSimpArgs false
namespace Go.Pv
open Go Go.RowKit
inductive MT where
 | fin
 | op (i : Nat) (t : MT)
 | ck (i : Nat) (t : MT)
 | br (a b : MT)
 | zp (i : Nat) (t : MT)
inductive RT where
 | fin | bad
 | op (d : Option Tmp) (op : Op) (t : RT)
 | ck (d : Nat) (op : Op) (t : RT)
 | br (a b : RT)
 | call (d : Option Tmp) (f : Operand) (args : Array Operand) (t : RT)
 | zop (d : Option Tmp) (op : Op) (t : RT)
def fnV : PV → List PV → Option (FuncId × List PV)
 | .fn (.func fid) xs ys,args=>some (fid,xs ++ args ++ ys)
 | _,_=>none
def fnArgs (f : Operand) (args : Array Operand) (E : Env) : Option (FuncId × List PV):=fnV (evO E f) (args.toList.map (evO E))
def rtOp (z : Bool) : Option LOp → RT → RT
 | some ⟨d,.call ⟨.value f,args,_⟩,none⟩,t=>.call d f args t
 | some ⟨d,.buildSlice T len parts,none⟩,t=>if z = true then .zop d (.buildSlice T len parts) t else .op d (.buildSlice T len parts) t
 | some ⟨d,.call ⟨.builtin .append,args,Ts⟩,none⟩,t=>if z = true then .zop d (.call ⟨.builtin .append,args,Ts⟩) t else .op d (.call ⟨.builtin .append,args,Ts⟩) t
 | some ⟨d,op,none⟩,t=>.op d op t
 | _,_=>.bad
def rtCk : Option LOp → RT → RT
 | some ⟨some d,op,none⟩,t=>.ck d op t
 | _,_=>.bad
@[simp] def rtZp : Option LOp → RT → RT
 | some ⟨some d,.buildSlice T len parts,none⟩,t=>.zop (some d) (.buildSlice T len parts) t
 | _,_=>.bad
def nthL : List LOp → Nat → Option LOp
 | [],_=>none
 | o :: _,0=>some o
 | _ :: r,i + 1=>nthL r i
theorem nthL_eq : ∀ (l : List LOp) (i : Nat),nthL l i = l[i]?
 | [],i=>by simp [nthL]
 | o :: r,0=>by simp [nthL]
 | o :: r,i + 1=>by simp [nthL,nthL_eq r i]
def resolve (z : Bool) (ops : List LOp) : MT → RT
 | .fin=>.fin
 | .op i t=>rtOp z (nthL ops i) (resolve z ops t)
 | .ck i t=>rtCk (nthL ops i) (resolve z ops t)
 | .br a b=>.br (resolve z ops a) (resolve z ops b)
 | .zp i t=>rtZp (nthL ops i) (resolve z ops t)
def pan1 (v : Value) : Exit:=.panic [{ v:=v,recovered:=false }]
def CallPan (P : Program) (f : FuncId) (args : List PV) (s : Store) (v : Value) (s' : Store) : Prop:=
 ∀ (pub : PHeap) (σ : Sig) (w : World) (cargs : Array Value),Base pub σ s w → RelA pub σ args cargs →
  Calls P f cargs w fun e w'=>∃ pub' σ',e = .panicked [{ v:=v,recovered:=false }] ∧ SR ⟨w,pub,σ,dom s σ⟩ pub' σ' s' w'
abbrev KPn:=Value → Store → Prop
def topsE (P : Program) (kp : KPn) : RT → Env → Store → (Env → Store → Prop) → Prop
 | .fin,e,s,k=>k e s
 | .bad,_,_,_=>False
 | .op d op t,e,s,k=>∃ v s',xop P op e s = some (v,s') ∧ topsE P kp t (e.upd d v) s' k
 | .ck d op t,e,s,k=>(∃ s',xop P op e s = some (e d,s')) ∧ topsE P kp t e s k
 | .br a b,e,s,k=>topsE P kp a e s k ∧ topsE P kp b e s k
 | .call d f args t,e,s,k=>∃ fid vs,fnArgs f args e = some (fid,vs) ∧ Enters P fid ∧ ((∃ v s',CallOK P fid vs s v s' ∧ topsE P kp t (e.upd d v) s' k) ∨ ∃ v s',CallPan P fid vs s v s' ∧ kp v s')
 | .zop d op t,e,s,k=>∃ v,WFz P op e v ∧ topsE P kp t (e.upd d v) s k
theorem fnV_some {v : PV} {args : List PV} {fid : FuncId} {vs : List PV} (h : fnV v args = some (fid,vs)) : ∃ xs ys,v = .fn (.func fid) xs ys ∧ vs = xs ++ args ++ ys:=by
 unfold fnV at h
 split at h
 ·cases h;exact ⟨_,_,rfl,rfl⟩
 ·cases h
theorem fnArgs_some {f : Operand} {args : Array Operand} {E : Env} {fid : FuncId} {vs : List PV} (h : fnArgs f args E = some (fid,vs)) : ∃ xs ys,evO E f = .fn (.func fid) xs ys ∧ vs = xs ++ args.toList.map (evO E) ++ ys:=by
 exact fnV_some h
def isBuild : Op → Bool
 | .buildSlice .. | .call ⟨.builtin .append,_,_⟩=>true
 | _=>false
def OpX (z : Bool) (P : Program) (op : Op) (e : Env) (s : Store) (v : PV) (s' : Store) : Prop:=match op with
 | .call ⟨.value f,args,_⟩=>∃ fid vs,fnArgs f args e = some (fid,vs) ∧ Enters P fid ∧ CallOK P fid vs s v s'
 | op=>if z = true ∧ isBuild op = true then WFz P op e v ∧ s' = s else xop P op e s = some (v,s')
def OpPan (P : Program) (op : Op) (e : Env) (s : Store) (kp : KPn) : Prop:=match op with
 | .call ⟨.value f,args,_⟩=>∃ fid vs,fnArgs f args e = some (fid,vs) ∧ Enters P fid ∧ ∃ v s',CallPan P fid vs s v s' ∧ kp v s'
 | _=>False
theorem topsE_rtOp {z : Bool} {P : Program} {kp : KPn} {d : Option Tmp} {op : Op} {t : RT} {e : Env} {s : Store} {k : Env → Store → Prop} : topsE P kp (rtOp z (some ⟨d,op,none⟩) t) e s k ↔ (∃ v s',OpX z P op e s v s' ∧ topsE P kp t (e.upd d v) s' k) ∨ OpPan P op e s kp:=by
 have key : ∀ op : Op,isBuild op = true → OpX z P op e s = (fun v s'=>if z = true then WFz P op e v ∧ s' = s else xop P op e s = some (v,s')) → (topsE P kp (if z = true then .zop d op t else .op d op t) e s k ↔ ∃ v s',OpX z P op e s v s' ∧ topsE P kp t (e.upd d v) s' k):=by
  intro op hb ho
  rw [ho]
  by_cases hz : z = true
  ·simp only [hz,if_true]
   constructor
   ·rintro ⟨v,h1,h2⟩;exact ⟨v,s,⟨h1,rfl⟩,h2⟩
   ·rintro ⟨v,s',⟨h1,rfl⟩,h2⟩;exact ⟨v,h1,h2⟩
  ·simp only [hz];exact Iff.rfl
 have plain : ∀ op : Op,isBuild op = false → (∀ f args Ts,op ≠ .call ⟨.value f,args,Ts⟩) → OpX z P op e s = fun v s'=>xop P op e s = some (v,s'):=by
  intro op hb hv
  funext v s'
  unfold OpX
  split
  ·exact absurd rfl (hv _ _ _)
  ·rw [if_neg (by simp [hb])]
 cases op
 case call c=>
  obtain ⟨cc,args,Ts⟩:=c
  cases cc with
  | value f=>
   simp only [rtOp,topsE,OpX,OpPan]
   constructor
   ·rintro ⟨fid,vs,h1,h2,⟨v,s',h3,h4⟩ | h3⟩
    ·exact .inl ⟨v,s',⟨fid,vs,h1,h2,h3⟩,h4⟩
    ·exact .inr ⟨fid,vs,h1,h2,h3⟩
   ·rintro (⟨v,s',⟨fid,vs,h1,h2,h3⟩,h4⟩ | ⟨fid,vs,h1,h2,h3⟩)
    ·exact ⟨fid,vs,h1,h2,.inl ⟨v,s',h3,h4⟩⟩
    ·exact ⟨fid,vs,h1,h2,.inr h3⟩
  | invoke r n=>rw [plain _ rfl (by intros;simp)];simp only [OpPan,or_false];exact Iff.rfl
  | builtin b=>
   simp only [OpPan,or_false]
   cases b <;> try (rw [plain _ rfl (by intros;simp)];exact Iff.rfl)
   refine key _ rfl ?_
   funext v s';simp [OpX,isBuild]
 case buildSlice T len parts=>
  simp only [OpPan,or_false]
  refine key _ rfl ?_
  funext v s';simp [OpX,isBuild]
 all_goals (simp only [OpPan,or_false];rw [plain _ rfl (by intros;simp)];exact Iff.rfl)
theorem opPan_hard {P : Program} {op : Op} {e : Env} {s : Store} {kp : KPn} (h : OpPan P op e s kp) : isRead op = false:=by
 unfold OpPan at h
 split at h
 ·rfl
 ·exact h.elim
theorem opx_wz {z : Bool} {P : Program} {op : Op} {e : Env} {s s' : Store} {v : PV} {k : PV → Store → Prop} (h : OpX z P op e s v s') (hk : k v s') : WZ P op e s k:=by
 unfold OpX at h
 split at h
 ·obtain ⟨fid,vs,h1,h2,h3⟩ := h
  obtain ⟨xs,ys,h5,rfl⟩:=fnArgs_some h1
  exact .inl ⟨fid,xs,ys,v,s',h5,h2,h3,hk⟩
 ·split at h
  ·obtain ⟨h1,rfl⟩ := h
   exact .inr ⟨v,h1,hk⟩
  ·exact .inl (wop_of h hk)
theorem opx_wop {z : Bool} {P : Program} {op : Op} {e : Env} {s s' : Store} {v : PV} {k : PV → Store → Prop} (hr : isRead op = true) (h : OpX z P op e s v s') (hk : k v s') : WOp P op e s k:=by
 unfold OpX at h
 split at h
 ·cases hr
 ·rw [if_neg] at h
  ·exact wop_of h hk
  ·rintro ⟨_,hb⟩
   unfold isBuild at hb
   split at hb <;> first | (cases hr;done) | (cases hb;done)
def isBld : Op → Bool
 | .buildSlice ..=>true
 | _=>false
def isRB (op : Op) : Bool:=isRead op || isBld op
def WV (P : Program) (op : Op) (e : Env) (s : Store) (v : PV) : Prop:=if isBld op = true then WFz P op e v else WOp P op e s (fun v' s'=>v' = v ∧ s' = s)
theorem wv_congr {P : Program} {op : Op} {e e' : Env} {s : Store} {v : PV} (h : WV P op e s v) (hx : ∀ x ∈ op.operands,evO e x = evO e' x) : WV P op e' s v:=by
 unfold WV at h ⊢
 split at h
 ·rename_i hb;rw [if_pos hb];exact fz_congr h hx
 ·rename_i hb;rw [if_neg hb];exact wop_congr h hx
theorem wv_wz {P : Program} {op : Op} {e : Env} {s : Store} {v : PV} (h : WV P op e s v) : WZ P op e s (fun v' s'=>v' = v ∧ s' = s):=by
 unfold WV at h
 split at h
 ·exact .inr ⟨v,h,rfl,rfl⟩
 ·exact .inl h
theorem isRB_read {op : Op} (h : isRead op = true) : isRB op = true:=by simp [isRB,h]
theorem read_bld {op : Op} (h : isRead op = true) : isBld op = false:=by
 cases op <;> first | rfl | (cases h;done)
theorem wv_read {P : Program} {op : Op} {e : Env} {s : Store} {v : PV} (hr : isRead op = true) (h : WOp P op e s (fun v' s'=>v' = v ∧ s' = s)) : WV P op e s v:=by
 unfold WV;rw [if_neg (by rw [read_bld hr];simp)];exact h
def isReg : Op → Bool
 | .move _ | .assign _ | .pick .. | .extract .. | .fieldAddr .. | .nilCheck _ | .buildSlice ..=>true
 | _=>false
theorem isReg_wv {P : Program} {op : Op} {e : Env} {s s2 : Store} {v : PV} (hr : isReg op = true) (h : WV P op e s v) : WV P op e s2 v:=by
 unfold WV at h ⊢
 split at h
 ·rename_i hb;rw [if_pos hb];exact h
 rename_i hb;rw [if_neg hb]
 cases op <;> simp only [isReg] at hr <;> first | (cases hr;done) | (exact absurd rfl hb) | skip
 case move x=>exact ⟨h.1,rfl⟩
 case assign x=>exact ⟨h.1,rfl⟩
 case pick c a b=>obtain ⟨t,h1,h2⟩:=h;exact ⟨t,h1,h2.1,rfl⟩
 case extract x n=>obtain ⟨vs,v,h1,h2,h3⟩:=h;exact ⟨vs,v,h1,h2,h3.1,rfl⟩
 case fieldAddr T x f=>
  obtain ⟨ti,h1,h2⟩:=h
  refine ⟨ti,h1,?_⟩
  unfold WFieldAddr at h2 ⊢
  obtain ⟨fs,off,t,sz,ag,h3,h4,h5⟩:=h2
  refine ⟨fs,off,t,sz,ag,h3,h4,?_⟩
  split at h5
  ·exact ⟨h5.1,rfl⟩
  ·exact ⟨h5.1,h5.2.1,rfl⟩
  ·exact h5.elim
 case nilCheck x=>exact ⟨h.1,h.2.1,rfl⟩
def treeBase (ops : Array Oper) : Bool:=(List.range ops.size).all fun i=>match ops[i]? with
 | none=>false
 | some o=>o.guard.isNone && (edgesOn o).all (fun j=>decide (j < i)) && (!isRead o.op || o.dst.isSome) &&
  (List.range ops.size).all (fun j=>j == i || o.dst.isNone || !((ops[j]?).map (·.dst) == some o.dst)) &&
  (tmpsOf o).all fun t=>(List.range ops.size).all fun j=>!((ops[j]?).map (·.dst) == some (some t)) || reaches ops ops.size i j || (!isRB o.op && reaches ops ops.size j i) || (j + 1 == ops.size && reaches ops ops.size j i)
def isInL (S : List Nat) (i : Nat) : Bool:=decide (i ∈ S)
def readAt (ops : Array Oper) (i : Nat) : Bool:=match ops[i]? with
 | some o=>isRead o.op && !(i + 1 == ops.size)
 | none=>false
def bldAt (ops : Array Oper) (i : Nat) : Bool:=match ops[i]? with
 | some o=>isBld o.op && !(i + 1 == ops.size) && o.dst.isSome
 | none=>false
def regAt (ops : Array Oper) (i : Nat) : Bool:=match ops[i]? with
 | some o=>isReg o.op
 | none=>false
def edgesIn (ops : Array Oper) (S : List Nat) (i : Nat) : Bool:=match ops[i]? with
 | some o=>(edgesOn o).all (isInL S)
 | none=>false
def leftD (ops : Array Oper) (D : List Nat) (i : Nat) : List Nat:=D.filter fun j=>!reaches ops ops.size i j
def chkT (ops : Array Oper) : MT → List Nat → List Nat → List Nat → List Nat → Bool
 | .fin,S,D,C,A=>C.isEmpty && A.isEmpty && (List.range ops.size).all (isInL S)
 | .ck j t,S,D,C,A=>A.isEmpty && readAt ops j && chkT ops t S D (C.filter fun x=>!(x == j)) A
 | .op i t,S,D,C,A=>C.isEmpty && !isInL S i && edgesIn ops S i && decide (i < ops.size) &&
  (if readAt ops i then A.isEmpty && chkT ops t (i :: S) (i :: D) [] []
   else (List.range ops.size).all (fun x=>isInL S x || x == i || isInL A x || !edgesIn ops S x) && chkT ops t (i :: S) (leftD ops D i) ((leftD ops D i).filter fun j=>!regAt ops j) [])
 | .br (.op i t) b,S,D,C,A=>C.isEmpty && !isInL S i && edgesIn ops S i && decide (i < ops.size) && !readAt ops i && chkT ops t (i :: S) (leftD ops D i) ((leftD ops D i).filter fun j=>!regAt ops j) [] && chkT ops b S D [] (i :: A)
 | .br _ _,_,_,_,_=>false
 | .zp i t,S,D,C,A=>C.isEmpty && A.isEmpty && !isInL S i && edgesIn ops S i && bldAt ops i && chkT ops t (i :: S) (i :: D) [] []
def nextOut (S : List Nat) : List Nat → Option Nat
 | []=>none
 | q :: r=>if q ∈ S then nextOut S r else some q
section
variable {P : Program} {N : FrN} {ops : Array Oper}
def Valid (P : Program) (ops : Array Oper) (i : Nat) (e : Env) (s : Store) : Prop:=∀ o,ops[i]? = some o → ∀ d,o.dst = some d → WV P o.op e s (e d)
structure TInv (P : Program) (ops : Array Oper) (S D C Sa : List Nat) (e E : Env) (s : Store) : Prop where
 sub : ∀ i ∈ Sa,i ∈ S
 cl : ∀ i ∈ S,∀ o,ops[i]? = some o → ∀ j ∈ edgesOn o,j ∈ S
 cla : ∀ i ∈ Sa,∀ o,ops[i]? = some o → ∀ j ∈ edgesOn o,j ∈ Sa
 inD : ∀ i ∈ S,i ∉ Sa → i ∈ D
 rd : ∀ i ∈ S,i ∉ Sa → ∃ o,ops[i]? = some o ∧ isRB o.op = true ∧ i + 1 ≠ ops.size ∧ ∃ d,o.dst = some d
 val : ∀ i ∈ S,i ∉ Sa → i ∉ C → Valid P ops i e s
 agr : ∀ t,(∀ i ∈ S,i ∉ Sa → ∀ o,ops[i]? = some o → o.dst ≠ some t) → E t = e t
structure TBase (ops : Array Oper) : Prop where
 guard : ∀ (i : Nat) (o : Oper),ops[i]? = some o → o.guard = none
 edge : ∀ (i : Nat) (o : Oper),ops[i]? = some o → ∀ j ∈ edgesOn o,j < i
 dst : ∀ (i : Nat) (o : Oper),ops[i]? = some o → isRead o.op = true → ∃ d,o.dst = some d
 dist : ∀ (i : Nat) (o : Oper) (j : Nat) (o' : Oper) (t : Tmp),ops[i]? = some o → ops[j]? = some o' → o.dst = some t → o'.dst = some t → j = i
 dep : ∀ (i : Nat) (o : Oper) (j : Nat) (o' : Oper) (t : Tmp),ops[i]? = some o → ops[j]? = some o' → t ∈ tmpsOf o → o'.dst = some t → reaches ops ops.size i j = true ∨ (isRB o.op = false ∧ reaches ops ops.size j i = true) ∨ (j + 1 = ops.size ∧ reaches ops ops.size j i = true)
theorem treeBase_ok (h : treeBase ops = true) : TBase ops:=by
 unfold treeBase at h
 rw [List.all_eq_true] at h
 have key : ∀ (i : Nat) (o : Oper),ops[i]? = some o → o.guard.isNone = true ∧ (∀ j ∈ edgesOn o,j < i) ∧ (isRead o.op = false ∨ o.dst.isSome = true) ∧ (∀ j,j < ops.size → j = i ∨ o.dst = none ∨ ¬ (ops[j]?).map (·.dst) = some o.dst) ∧
   ∀ t ∈ tmpsOf o,∀ j,j < ops.size → ((¬ (ops[j]?).map (·.dst) = some (some t) ∨ reaches ops ops.size i j = true) ∨ (isRB o.op = false ∧ reaches ops ops.size j i = true)) ∨ (j + 1 = ops.size ∧ reaches ops ops.size j i = true):=by
  intro i o ho
  have:=h i (List.mem_range.2 (arr_lt ho))
  rw [ho] at this
  simpa [and_assoc,or_assoc] using this
 refine ⟨fun i o ho=>?_,fun i o ho=>(key i o ho).2.1,fun i o ho hr=>?_,fun i o j o' t ho ho' h1 h2=>?_,fun i o j o' t ho ho' h1 h2=>?_⟩
 ·have:=(key i o ho).1;simpa using this
 ·rcases (key i o ho).2.2.1 with h | h
  ·rw [hr] at h;cases h
  ·exact Option.isSome_iff_exists.1 h
 ·rcases (key i o ho).2.2.2.1 j (arr_lt ho') with h | h | h
  ·exact h
  ·rw [h1] at h;cases h
  ·exact absurd (by rw [ho',h1];simp [h2]) h
 ·rcases (key i o ho).2.2.2.2 t h1 j (arr_lt ho') with ((h | h) | h) | h
  ·exact absurd (by rw [ho'];simp [h2]) h
  ·exact .inl h
  ·exact .inr (.inl h)
  ·exact .inr (.inr h)
theorem isInL_eq {S : List Nat} {i : Nat} : isInL S i = true ↔ i ∈ S:=by simp [isInL]
theorem edgesIn_ok {S : List Nat} {i : Nat} (h : edgesIn ops S i = true) : ∃ o,ops[i]? = some o ∧ ∀ j ∈ edgesOn o,j ∈ S:=by
 unfold edgesIn at h
 split at h
 ·rename_i o ho
  refine ⟨o,ho,fun j hj=>isInL_eq.1 (List.all_eq_true.1 h j hj)⟩
 ·cases h
theorem wpOps_step {C : Ctx} {pub : PHeap} {σ : Sig} {s : Store} {w : World} {E : Env} {a : Act} {Q : Exit → Act → World → Prop} {q : Nat} {l : List Nat} {o : Oper} {K : PV → Store → Prop} (hi : ops[q]? = some o) (hg : o.guard = none) (hd : ∀ d,o.dst = some d → d ∈ N)
  (h : WZ P o.op E s K) (hs : SR C pub σ s w) (he : ER pub σ N E a) (hn : ∀ v s' pub' σ' a' w',K v s' → SR C pub' σ' s' w' → ER pub' σ' N (E.upd o.dst v) a' → wpOps P ops Q l a' w') : wpOps P ops Q (q :: l) a w:=by
 simp only [wpOps,hi]
 have : Region.wanted o (yielded ops a.tmps) = true:=by simp [Region.wanted,hg]
 rw [if_pos this]
 refine .inl (wz_ok h C pub σ a w _ _ hs he fun v s' cv pub' σ' w' hK hs' he' hr=>?_)
 exact hn v s' pub' σ' _ w' hK hs' (he'.put _ hd hr)
theorem opnd_of {o : Oper} {x : Operand} {E e : Env} (hx : x ∈ o.op.operands) (h : ∀ t ∈ tmpsOf o,E t = e t) : evO e x = evO E x:=by
 cases x with
 | tmp t=>exact (h t (by simp only [tmpsOf,List.mem_filterMap];exact ⟨_,by simpa using hx,rfl⟩)).symm
 | const v=>rfl
 | global g=>rfl
 | func f=>rfl
theorem cov_next {i : Nat} {l Sa : List Nat} (h : ∀ j,j < ops.size → j ∈ Sa ∨ j ∈ i :: l) : ∀ j,j < ops.size → j ∈ i :: Sa ∨ j ∈ l:=by
 intro j hj
 rcases h j hj with h1 | h1
 ·exact .inl (List.mem_cons_of_mem _ h1)
 ·rcases List.mem_cons.1 h1 with rfl | h1
  ·exact .inl List.mem_cons_self
  ·exact .inr h1
theorem tree_catch (hb : TBase ops) (hN : ∀ (i : Nat) (o : Oper) (d : Tmp),ops[i]? = some o → o.dst = some d → d ∈ N) {S D : List Nat} {e : Env} {s : Store} {C : Ctx} {Q : Exit → Act → World → Prop} {nx : Option Nat}
  (h : ∀ l Sa E pub σ a w,Chain ops Sa l → (∀ i,i < ops.size → i ∈ Sa ∨ i ∈ l) → TInv P ops S D [] Sa e E s → SR C pub σ s w → ER pub σ N E a → (∀ q r,l = q :: r → q ∉ S) → nextOut S l = nx → wpOps P ops Q l a w) :
  ∀ l Sa E pub σ a w,Chain ops Sa l → (∀ i,i < ops.size → i ∈ Sa ∨ i ∈ l) → TInv P ops S D [] Sa e E s → SR C pub σ s w → ER pub σ N E a → nextOut S l = nx → wpOps P ops Q l a w:=by
 intro l
 induction l with
 | nil=>intro Sa E pub σ a w hc hcov hi hs he hx;exact h [] Sa E pub σ a w hc hcov hi hs he (fun q r h=>by cases h) hx
 | cons q l ih=>
  intro Sa E pub σ a w hc hcov hi hs he hx
  by_cases hq : q ∈ S
  ·have hc0 := hc
   cases hc with
   | cons ho hn hed hrest=>
    rename_i o
    obtain ⟨o',ho',hr,hnl,d,hd⟩:=hi.rd q hq hn
    rw [ho] at ho';cases ho'
    have hv:=hi.val q hq hn (by simp) o ho d hd
    have hag : ∀ t ∈ tmpsOf o,E t = e t:=fun t ht=>hi.agr t fun x hx hxa ox hox hdx=>by
     rcases hb.dep q o x ox t ho hox ht hdx with h1 | ⟨h1,_⟩ | ⟨h1,_⟩
     ·exact hxa (reaches_in hi.cla _ _ _ o ho hed h1)
     ·rw [hr] at h1;cases h1
     ·obtain ⟨_,_,_,hl,_⟩:=hi.rd x hx hxa;exact hl h1
    refine wpOps_step ho (hb.guard q o ho) (fun d h=>hN q o d ho h) (wv_wz (wv_congr hv fun x hx=>opnd_of hx hag)) hs he ?_
    rintro v s' pub' σ' a' w' ⟨rfl,rfl⟩ hs' he'
    rw [hd] at he'
    refine ih (q :: Sa) _ pub' σ' a' w' hrest (cov_next hcov) ?_ hs' he' (by rw [nextOut,if_pos hq] at hx;exact hx)
    exact {
     sub:=fun i h=>by
      rcases List.mem_cons.1 h with rfl | h
      ·exact hq
      ·exact hi.sub i h
     cl:=hi.cl
     cla:=fun i h o' ho' j hj=>by
      rcases List.mem_cons.1 h with rfl | h
      ·rw [ho] at ho';cases ho';exact List.mem_cons_of_mem _ (hed j hj)
      ·exact List.mem_cons_of_mem _ (hi.cla i h o' ho' j hj)
     inD:=fun i h h2=>hi.inD i h fun h3=>h2 (List.mem_cons_of_mem _ h3)
     rd:=fun i h h2=>hi.rd i h fun h3=>h2 (List.mem_cons_of_mem _ h3)
     val:=fun i h h2=>hi.val i h fun h3=>h2 (List.mem_cons_of_mem _ h3)
     agr:=fun t ht=>by
      by_cases htd : t = d
      ·subst htd;simp [Env.upd]
      ·have : E.upd (some d) (e d) t = E t := by simp [Env.upd,htd]
       rw [this]
       refine hi.agr t fun i h h2 o' ho'=>?_
       by_cases hiq : i = q
       ·subst hiq;rw [ho] at ho';cases ho';rw [hd];intro h;cases h;exact htd rfl
       ·exact ht i h (by simp [hiq,h2]) o' ho' }
  ·exact h (q :: l) Sa E pub σ a w hc hcov hi hs he (fun q' r h=>by cases h;exact hq) hx
theorem lop_get {i : Nat} {o : Oper} (hg : o.guard = none) (ho : ops[i]? = some o) : nthL (lopsL (dsts ops.toList) ops.toList) i = some ⟨o.dst,o.op,none⟩:=by
 rw [nthL_eq,lopsL_eq,List.getElem?_map,Array.getElem?_toList,ho]
 simp [lop,hg]
theorem tree_hard (hb : TBase ops) (hN : ∀ (i : Nat) (o : Oper) (d : Tmp),ops[i]? = some o → o.dst = some d → d ∈ N) {S D : List Nat} {e : Env} {s : Store} {C : Ctx} {Q : Exit → Act → World → Prop} {i : Nat} {o : Oper} {v : PV} {s1 : Store} {z : Bool} (ho : ops[i]? = some o) (hx : OpX z P o.op e s v s1) (hiS : i ∉ S)
  (hk : ∀ l Sa E pub σ a w,Chain ops Sa l → (∀ i,i < ops.size → i ∈ Sa ∨ i ∈ l) → TInv P ops (i :: S) (leftD ops D i) ((leftD ops D i).filter fun j=>!regAt ops j) Sa (e.upd o.dst v) E s1 → SR C pub σ s1 w → ER pub σ N E a → wpOps P ops Q l a w) :
  ∀ l Sa E pub σ a w,Chain ops Sa (i :: l) → (∀ j,j < ops.size → j ∈ Sa ∨ j ∈ i :: l) → TInv P ops S D [] Sa e E s → SR C pub σ s w → ER pub σ N E a → wpOps P ops Q (i :: l) a w:=by
 intro l Sa E pub σ a w hc hcov hi hs he
 cases hc with
 | cons ho' hn hed hrest=>
  rw [ho] at ho';cases ho'
  have hag : ∀ t ∈ tmpsOf o,E t = e t:=fun t ht=>hi.agr t fun x hx hxa ox hox hdx=>by
   rcases hb.dep i o x ox t ho hox ht hdx with h1 | ⟨_,h1⟩ | ⟨_,h1⟩
   ·exact hxa (reaches_in hi.cla _ _ _ o ho hed h1)
   ·exact hiS (reaches_in hi.cl _ _ _ ox hox (hi.cl x hx ox hox) h1)
   ·exact hiS (reaches_in hi.cl _ _ _ ox hox (hi.cl x hx ox hox) h1)
  refine wpOps_step ho (hb.guard i o ho) (fun d h=>hN i o d ho h) (wz_congr (opx_wz (k:=fun v' s'=>v' = v ∧ s' = s1) hx ⟨rfl,rfl⟩) fun x hx=>opnd_of hx hag) hs he ?_
  rintro v' s' pub' σ' a' w' ⟨rfl,rfl⟩ hs' he'
  refine hk l (i :: Sa) _ pub' σ' a' w' hrest (cov_next hcov) ?_ hs' he'
  have hne : ∀ j,j ∈ i :: S → j ∉ i :: Sa → j ∈ S ∧ j ∉ Sa:=fun j h1 h2=>by
   simp only [List.mem_cons,not_or] at h1 h2
   exact ⟨h1.resolve_left h2.1,h2.2⟩
  exact {
   sub:=fun j h=>by
    rcases List.mem_cons.1 h with rfl | h
    ·exact List.mem_cons_self
    ·exact List.mem_cons_of_mem _ (hi.sub j h)
   cl:=fun j h o' ho' x hx=>by
    rcases List.mem_cons.1 h with rfl | h
    ·rw [ho] at ho';cases ho';exact List.mem_cons_of_mem _ (hi.sub _ (hed x hx))
    ·exact List.mem_cons_of_mem _ (hi.cl j h o' ho' x hx)
   cla:=fun j h o' ho' x hx=>by
    rcases List.mem_cons.1 h with rfl | h
    ·rw [ho] at ho';cases ho';exact List.mem_cons_of_mem _ (hed x hx)
    ·exact List.mem_cons_of_mem _ (hi.cla j h o' ho' x hx)
   inD:=fun j h1 h2=>by
    obtain ⟨h3,h4⟩:=hne j h1 h2
    unfold leftD
    rw [List.mem_filter]
    refine ⟨hi.inD j h3 h4,?_⟩
    cases h5 : reaches ops ops.size i j with
    | false=>rfl
    | true=>exact absurd (reaches_in hi.cla _ _ _ o ho hed h5) h4
   rd:=fun j h1 h2=>by obtain ⟨h3,h4⟩:=hne j h1 h2;exact hi.rd j h3 h4
   val:=fun j h1 h2 h5=>by
    obtain ⟨h3,h4⟩:=hne j h1 h2
    have hjl : j ∈ leftD ops D i:=by
     unfold leftD
     rw [List.mem_filter]
     refine ⟨hi.inD j h3 h4,?_⟩
     cases h5 : reaches ops ops.size i j with
     | false=>rfl
     | true=>exact absurd (reaches_in hi.cla _ _ _ o ho hed h5) h4
    intro oj hoj d hd
    obtain ⟨oj',hoj',hrj,hjl2,_⟩:=hi.rd j h3 h4
    rw [hoj] at hoj';cases hoj'
    have hreg : isReg oj.op = true:=by
     cases h6 : isReg oj.op with
     | true=>rfl
     | false=>exact absurd (List.mem_filter.2 ⟨hjl,by simp [regAt,hoj,h6]⟩) h5
    have hv:=isReg_wv (s2:=s') hreg (hi.val j h3 h4 (by simp) oj hoj d hd)
    have hd2 : (e.upd o.dst v') d = e d:=by
     cases hod : o.dst with
     | none=>rfl
     | some d2=>
      have : d ≠ d2:=fun hx=>by
       subst hx
       have:=hb.dist i o j oj d ho hoj hod hd
       subst this;exact hiS h3
      simp [Env.upd,this]
    rw [hd2]
    refine wv_congr hv fun x hx=>opnd_of hx fun t ht=>?_
    cases hod : o.dst with
    | none=>rfl
    | some d2=>
     have : t ≠ d2:=fun hx=>by
      subst hx
      rcases hb.dep j oj i o t hoj ho ht hod with h7 | ⟨h7,_⟩ | ⟨_,h7⟩
      ·exact hiS (reaches_in hi.cl _ _ _ oj hoj (hi.cl j h3 oj hoj) h7)
      ·rw [hrj] at h7;cases h7
      ·exact h4 (reaches_in hi.cla _ _ _ o ho hed h7)
     simp [Env.upd,this]
   agr:=fun t ht=>by
    cases hod : o.dst with
    | none=>
     exact hi.agr t fun j h3 h4 o' ho'=>ht j (List.mem_cons_of_mem _ h3) (by simp [h4];rintro rfl;exact hiS h3) o' ho'
    | some d2=>
     by_cases htd : t = d2
     ·subst htd;simp [Env.upd]
     ·simp only [Env.upd,if_neg htd]
      exact hi.agr t fun j h3 h4 o' ho'=>ht j (List.mem_cons_of_mem _ h3) (by simp [h4];rintro rfl;exact hiS h3) o' ho' }
theorem tree_pan (hb : TBase ops) {S D : List Nat} {e : Env} {s : Store} {kp : KPn} {C : Ctx} {Q : Exit → Act → World → Prop} {i : Nat} {o : Oper} (ho : ops[i]? = some o) (hx : OpPan P o.op e s kp) (hiS : i ∉ S)
  (hp : ∀ v s' pub' σ' a' w',kp v s' → SR C pub' σ' s' w' → ER pub' σ' N (fun _=>.any) a' → Q (pan1 v) a' w') :
  ∀ l Sa E pub σ a w,Chain ops Sa (i :: l) → TInv P ops S D [] Sa e E s → SR C pub σ s w → ER pub σ N E a → wpOps P ops Q (i :: l) a w:=by
 intro l Sa E pub σ a w hc hi hs he
 cases hc with
 | cons ho' hn hed hrest=>
  rw [ho] at ho';cases ho'
  have hag : ∀ t ∈ tmpsOf o,E t = e t:=fun t ht=>hi.agr t fun x hx hxa ox hox hdx=>by
   rcases hb.dep i o x ox t ho hox ht hdx with h1 | ⟨_,h1⟩ | ⟨_,h1⟩
   ·exact hxa (reaches_in hi.cla _ _ _ o ho hed h1)
   ·exact hiS (reaches_in hi.cl _ _ _ ox hox (hi.cl x hx ox hox) h1)
   ·exact hiS (reaches_in hi.cl _ _ _ ox hox (hi.cl x hx ox hox) h1)
  have hopnd : ∀ x ∈ o.op.operands,evO e x = evO E x:=fun x hx=>opnd_of hx hag
  have hop : ∃ op,o.op = op:=⟨_,rfl⟩
  obtain ⟨op,hop⟩:=hop
  rw [hop] at hx hopnd
  unfold OpPan at hx
  split at hx
  ·rename_i f args Ts
   obtain ⟨fid,vs,h1,hen,v,s',hcp,hkp⟩:=hx
   obtain ⟨xs,ys,hf,rfl⟩:=fnArgs_some h1
   have hfe : evO E f = .fn (.func fid) xs ys:=by rw [← hopnd f (by simp [Op.operands,Call.operands]),hf]
   have hargs : args.toList.map (evO e) = args.toList.map (evO E):=List.map_congr_left fun x hx=>hopnd x (by simp only [Op.operands,Call.operands];simp;exact .inr (by simpa using hx))
   rw [hargs] at hcp
   simp only [wpOps,ho]
   have hw : Region.wanted o (yielded ops a.tmps) = true:=by simp [Region.wanted,hb.guard i o ho]
   rw [if_pos hw]
   refine .inl ?_
   have hr:=evO_rel he f
   rw [hfe] at hr
   generalize hv : a.eval f = cv at hr
   cases hr with
   | fn hsx hrx hsy hry=>
    rename_i xa ya
    have hA : RelA pub σ (xs ++ args.toList.map (evO E) ++ ys) (xa ++ args.map a.eval ++ ya):=RelA.append (RelA.append ⟨hsx,hrx⟩ (map_rel he args)) ⟨hsy,hry⟩
    have hcall:=hcp pub σ w _ hs.toBase hA
    have hrun : (execOp a.eval o).run P w = .ok (.enter fid (xa ++ args.map a.eval ++ ya)) w:=by
     simp only [execOp,hop,Go.resolve,hv,Deferred.ofValue,pure_bind,invoke]
     exact hen _ w
    unfold Oper.wp
    rw [hrun]
    refine Calls.mono hcall ?_
    rintro en w' ⟨pub',σ',rfl,hs'⟩
    have he0 : ER pub σ N (fun _=>.any) a:=⟨he.size,he.defers,he.kept,fun _=>.any⟩
    exact hp v s' pub' σ' a w' hkp (hs.trans hs') (he0.mono hs'.ple hs'.sle)
  ·exact hx.elim
theorem xop_same {op : Op} {e : Env} {s s' : Store} {v : PV} (hr : isRead op = true) (h : xop P op e s = some (v,s')) : s' = s:=by
 unfold xop at h
 split at h <;> (try (cases hr;done))
 case h_22=>
  rename_i c
  obtain ⟨cc,cargs,cTs⟩:=c
  cases cc with
  | value f=>cases hr
  | invoke r n=>cases hr
  | builtin b=>
   cases b <;> (try (cases hr;done))
   all_goals
    simp only [xcall] at h
    split at h
    ·first
     | (split at h <;> cases h;rfl)
     | (obtain ⟨_,_,h⟩:=Option.bind_eq_some_iff.1 h;obtain ⟨_,_,h⟩:=Option.map_eq_some_iff.1 h;cases h;rfl)
    ·cases h
 all_goals first
  | (cases h <;> rfl)
  | (obtain ⟨_,_,h⟩:=Option.map_eq_some_iff.1 h;cases h;rfl)
  | (obtain ⟨_,_,h⟩:=Option.bind_eq_some_iff.1 h;obtain ⟨_,_,h⟩:=Option.map_eq_some_iff.1 h;cases h;rfl)
  | (obtain ⟨_,_,h⟩:=Option.bind_eq_some_iff.1 h;obtain ⟨_,_,h⟩:=Option.bind_eq_some_iff.1 h;obtain ⟨_,_,h⟩:=Option.map_eq_some_iff.1 h;cases h;rfl)
theorem opx_same {z : Bool} {op : Op} {e : Env} {s s' : Store} {v : PV} (hr : isRead op = true) (h : OpX z P op e s v s') : s' = s:=by
 unfold OpX at h
 split at h
 ·cases hr
 ·split at h
  ·exact h.2
  ·exact xop_same hr h
theorem nextOut_head {S : List Nat} {q : Nat} {r : List Nat} (h : q ∉ S) : nextOut S (q :: r) = some q:=by rw [nextOut,if_neg h]
theorem tree_soon (hb : TBase ops) {S D Sa : List Nat} {e E : Env} {s : Store} {i : Nat} {o : Oper} {v : PV} {d : Tmp} (ho : ops[i]? = some o) (hed2 : ∀ j ∈ edgesOn o,j ∈ S) (hiS' : i ∉ S) (hd : o.dst = some d) (hr : isRB o.op = true) (hil : i + 1 ≠ ops.size) (h3 : TInv P ops S D [] Sa e E s) (hv : WV P o.op e s v) : TInv P ops (i :: S) (i :: D) [] Sa (e.upd (some d) v) E s:=by
 have hown : ∀ u ∈ tmpsOf o,u ≠ d:=fun u hu h=>by
  subst h
  rcases hb.dep i o i o u ho ho hu hd with h | ⟨h,_⟩ | ⟨h,_⟩
  ·exact hiS' (reaches_in h3.cl _ _ _ o ho hed2 h)
  ·rw [hr] at h;cases h
  ·exact hil h
 exact {
  sub:=fun j h=>List.mem_cons_of_mem _ (h3.sub j h)
  cl:=fun j h o' ho' x hx=>by
   rcases List.mem_cons.1 h with rfl | h
   ·rw [ho] at ho';cases ho';exact List.mem_cons_of_mem _ (hed2 x hx)
   ·exact List.mem_cons_of_mem _ (h3.cl j h o' ho' x hx)
  cla:=h3.cla
  inD:=fun j h g=>by
   rcases List.mem_cons.1 h with rfl | h
   ·exact List.mem_cons_self
   ·exact List.mem_cons_of_mem _ (h3.inD j h g)
  rd:=fun j h g=>by
   rcases List.mem_cons.1 h with rfl | h
   ·exact ⟨o,ho,hr,hil,d,hd⟩
   ·exact h3.rd j h g
  val:=fun j h g _=>by
   by_cases hji : j = i
   ·subst hji
    intro o' ho' d' hd'
    rw [ho] at ho';cases ho'
    rw [hd] at hd';cases hd'
    rw [show (e.upd (some d) v) d = v by simp [Env.upd]]
    exact wv_congr hv fun x hx=>opnd_of hx fun t ht=>by simp [Env.upd,hown t ht]
   ·have hjS : j ∈ S := (List.mem_cons.1 h).resolve_left hji
    intro oj hoj dj hdj
    obtain ⟨oj',hoj',hrj,_⟩:=h3.rd j hjS g
    rw [hoj] at hoj';cases hoj'
    have hne : dj ≠ d:=fun h=>by
     subst h
     exact hji (hb.dist i o j oj dj ho hoj hd hdj)
    rw [show (e.upd (some d) v) dj = e dj by simp [Env.upd,hne]]
    refine wv_congr (h3.val j hjS g (by simp) oj hoj dj hdj) fun x hx=>opnd_of hx fun u hu=>?_
    have : u ≠ d:=fun h=>by
     subst h
     rcases hb.dep j oj i o u hoj ho hu hd with h | ⟨h,_⟩ | ⟨h,_⟩
     ·exact hiS' (reaches_in h3.cl _ _ _ oj hoj (h3.cl j hjS oj hoj) h)
     ·rw [hrj] at h;cases h
     ·exact hil h
    simp [Env.upd,this]
  agr:=fun u hu=>by
   have htd : u ≠ d:=fun h=>by
    subst h
    exact hu i List.mem_cons_self (fun h=>hiS' (h3.sub i h)) o ho hd
   rw [show (e.upd (some d) v) u = e u by simp [Env.upd,htd]]
   exact h3.agr u fun j hj=>hu j (List.mem_cons_of_mem _ hj) }
theorem tree_run {z : Bool} {k : Env → Store → Prop} {kp : KPn} (hb : TBase ops) (hN : ∀ (i : Nat) (o : Oper) (d : Tmp),ops[i]? = some o → o.dst = some d → d ∈ N) {C : Ctx} {Q : Exit → Act → World → Prop}
  (hk : ∀ e' s' pub' σ' a' w',k e' s' → SR C pub' σ' s' w' → ER pub' σ' N e' a' → Q .normal a' w')
  (hp : ∀ v s' pub' σ' a' w',kp v s' → SR C pub' σ' s' w' → ER pub' σ' N (fun _=>.any) a' → Q (pan1 v) a' w') : ∀ (t : MT) (S D Ck A : List Nat) (e : Env) (s : Store),chkT ops t S D Ck A = true → topsE P kp (resolve z (lopsL (dsts ops.toList) ops.toList) t) e s k →
  ∀ l Sa E pub σ a w,Chain ops Sa l → (∀ i,i < ops.size → i ∈ Sa ∨ i ∈ l) → TInv P ops S D Ck Sa e E s → SR C pub σ s w → ER pub σ N E a → (∀ q ∈ A,nextOut S l ≠ some q) → wpOps P ops Q l a w
 | .fin,S,D,Ck,A,e,s,hc,ht,l,Sa,E,pub,σ,a,w,h1,h2,h3,hs,he,hA=>by
  simp only [chkT,Bool.and_eq_true,List.isEmpty_iff,List.all_eq_true,List.mem_range] at hc
  obtain ⟨⟨rfl,rfl⟩,hall⟩:=hc
  refine tree_catch hb hN (fun l Sa E pub σ a w h1 h2 h3 hs he hq hx=>?_) l Sa E pub σ a w h1 h2 h3 hs he (nx:=nextOut S l) rfl
  cases l with
  | cons q r=>
   cases h1 with
   | cons ho _ _ _=>exact absurd (isInL_eq.1 (hall q (arr_lt ho))) (hq q r rfl)
  | nil=>
   have hE : E = e:=by
    funext t
    refine h3.agr t fun i hi hia o ho=>?_
    rcases h2 i (arr_lt ho) with h | h
    ·exact absurd h hia
    ·cases h
   subst hE
   exact hk _ _ _ _ _ _ ht hs he
 | .ck j t,S,D,Ck,A,e,s,hc,ht,l,Sa,E,pub,σ,a,w,h1,h2,h3,hs,he,hA=>by
  simp only [chkT,Bool.and_eq_true,List.isEmpty_iff] at hc
  obtain ⟨⟨rfl,hr⟩,hc⟩:=hc
  unfold readAt at hr
  split at hr
  ·rename_i o ho
   simp only [Bool.and_eq_true] at hr
   replace hr:=hr.1
   obtain ⟨d,hd⟩:=hb.dst j o ho hr
   simp only [resolve,lop_get (hb.guard j o ho) ho,hd,rtCk,topsE] at ht
   obtain ⟨⟨s',hx⟩,ht⟩:=ht
   obtain rfl:=xop_same hr hx
   refine tree_run hb hN hk hp t S D _ [] e _ hc ht l Sa E pub σ a w h1 h2 ?_ hs he hA
   exact { h3 with
    val:=fun i hi hia hic=>by
     by_cases hij : i = j
     ·subst hij
      intro o' ho' d' hd'
      rw [ho] at ho';cases ho'
      rw [hd] at hd';cases hd'
      exact wv_read hr (wop_of hx ⟨rfl,rfl⟩)
     ·exact h3.val i hi hia fun h=>hic (List.mem_filter.2 ⟨h,by simp [hij]⟩) }
  ·cases hr
 | .op i t,S,D,Ck,A,e,s,hc,ht,l,Sa,E,pub,σ,a,w,h1,h2,h3,hs,he,hA=>by
  simp only [chkT,Bool.and_eq_true,List.isEmpty_iff,Bool.not_eq_true',decide_eq_true_eq] at hc
  obtain ⟨⟨⟨⟨rfl,hiS⟩,hed⟩,hsz⟩,hc⟩:=hc
  have hiS' : i ∉ S:=fun h=>by rw [isInL_eq.2 h] at hiS;cases hiS
  obtain ⟨o,ho,hed2⟩:=edgesIn_ok hed
  simp only [resolve,lop_get (hb.guard i o ho) ho,topsE_rtOp] at ht
  have hrd : readAt ops i = (isRead o.op && !(i + 1 == ops.size)):=by simp [readAt,ho]
  rw [hrd] at hc
  split at hc
  ·rename_i hr
   simp only [Bool.and_eq_true,Bool.not_eq_true',beq_eq_false_iff_ne] at hr
   obtain ⟨hr,hil⟩:=hr
   simp only [Bool.and_eq_true,List.isEmpty_iff] at hc
   obtain ⟨rfl,hc⟩:=hc
   obtain ⟨v,s',hx',ht⟩ | ht:=ht
   case inr=>rw [opPan_hard ht] at hr;cases hr
   obtain rfl:=opx_same hr hx'
   have hx:=hx'
   obtain ⟨d,hd⟩:=hb.dst i o ho hr
   rw [hd] at ht
   have hown : ∀ u ∈ tmpsOf o,u ≠ d:=fun u hu h=>by
    subst h
    rcases hb.dep i o i o u ho ho hu hd with h | ⟨h,_⟩ | ⟨h,_⟩
    ·exact hiS' (reaches_in h3.cl _ _ _ o ho hed2 h)
    ·rw [isRB_read hr] at h;cases h
    ·exact hil h
   refine tree_run hb hN hk hp t (i :: S) (i :: D) [] [] _ _ hc ht l Sa E pub σ a w h1 h2 (tree_soon hb ho hed2 hiS' hd (isRB_read hr) hil h3 ?_) hs he (fun q hq=>by cases hq)
   exact wv_read hr (opx_wop hr hx ⟨rfl,rfl⟩)
  ·rename_i hr
   simp only [Bool.and_eq_true,List.all_eq_true,List.mem_range,Bool.or_eq_true,beq_iff_eq,Bool.not_eq_true'] at hc
   obtain ⟨hall,hc⟩:=hc
   obtain ⟨nx,hnx⟩ : ∃ nx,nextOut S l = nx:=⟨_,rfl⟩
   rw [hnx] at hA
   refine tree_catch hb hN (fun l Sa E pub σ a w h1 h2 h3 hs he hq hx=>?_) l Sa E pub σ a w h1 h2 h3 hs he hnx
   cases l with
   | nil=>
    rcases h2 i hsz with h | h
    ·exact absurd (h3.sub i h) hiS'
    ·cases h
   | cons q r=>
    have hqS:=hq q r rfl
    rw [nextOut_head hqS] at hx
    have hqi : q = i:=by
     cases h1 with
     | cons hoq _ hedq _=>
      rename_i oq
      rcases hall q (arr_lt hoq) with ((h | h) | h) | h
      ·exact absurd (isInL_eq.1 h) hqS
      ·exact h
      ·exact absurd hx.symm (hA q (isInL_eq.1 h))
      ·have : edgesIn ops S q = true := by
        unfold edgesIn;rw [hoq]
        exact List.all_eq_true.2 fun j hj=>isInL_eq.2 (h3.sub j (hedq j hj))
       rw [this] at h;cases h
    subst hqi
    obtain ⟨v,s',hx',ht⟩ | ht:=ht
    case inr=>exact tree_pan hb ho ht hiS' hp r Sa E pub σ a w h1 h3 hs he
    exact tree_hard hb hN ho hx' hiS' (fun l Sa E pub σ a w h1 h2 h3 hs he=>tree_run hb hN hk hp t _ _ _ [] _ s' hc ht l Sa E pub σ a w h1 h2 h3 hs he (fun q hq=>by cases hq)) r Sa E pub σ a w h1 h2 h3 hs he
 | .br (.op i t) b,S,D,Ck,A,e,s,hc,ht,l,Sa,E,pub,σ,a,w,h1,h2,h3,hs,he,hA=>by
  simp only [chkT,Bool.and_eq_true,List.isEmpty_iff,Bool.not_eq_true',decide_eq_true_eq] at hc
  obtain ⟨⟨⟨⟨⟨⟨rfl,hiS⟩,hed⟩,hsz⟩,hr⟩,hc⟩,hcb⟩:=hc
  have hiS' : i ∉ S:=fun h=>by rw [isInL_eq.2 h] at hiS;cases hiS
  obtain ⟨o,ho,hed2⟩:=edgesIn_ok hed
  simp only [resolve,lop_get (hb.guard i o ho) ho,topsE,topsE_rtOp] at ht
  obtain ⟨ht,htb⟩:=ht
  by_cases hnx : nextOut S l = some i
  ·refine tree_catch hb hN (fun l Sa E pub σ a w h1 h2 h3 hs he hq hx => ?_) l Sa E pub σ a w h1 h2 h3 hs he hnx
   cases l with
   | nil=>cases hx
   | cons q r=>
    rw [nextOut_head (hq q r rfl)] at hx
    cases hx
    obtain ⟨v,s',hx',ht⟩ | ht:=ht
    case inr=>exact tree_pan hb ho ht hiS' hp r Sa E pub σ a w h1 h3 hs he
    exact tree_hard hb hN ho hx' hiS' (fun l Sa E pub σ a w h1 h2 h3 hs he=>tree_run hb hN hk hp t _ _ _ [] _ s' hc ht l Sa E pub σ a w h1 h2 h3 hs he (fun q hq=>by cases hq)) r Sa E pub σ a w h1 h2 h3 hs he
  ·exact tree_run hb hN hk hp b S D [] (i :: A) e s hcb htb l Sa E pub σ a w h1 h2 h3 hs he fun q hq => by
    rcases List.mem_cons.1 hq with rfl | hq
    ·exact hnx
    ·exact hA q hq
 | .zp i t,S,D,Ck,A,e,s,hc,ht,l,Sa,E,pub,σ,a,w,h1,h2,h3,hs,he,hA=>by
  simp only [chkT,Bool.and_eq_true,List.isEmpty_iff,Bool.not_eq_true'] at hc
  obtain ⟨⟨⟨⟨⟨rfl,rfl⟩,hiS⟩,hed⟩,hbl⟩,hc⟩:=hc
  have hiS' : i ∉ S:=fun h=>by rw [isInL_eq.2 h] at hiS;cases hiS
  obtain ⟨o,ho,hed2⟩:=edgesIn_ok hed
  simp only [bldAt,ho,Bool.and_eq_true,Bool.not_eq_true',beq_eq_false_iff_ne] at hbl
  obtain ⟨⟨hbd,hil⟩,hds⟩:=hbl
  obtain ⟨d,hd⟩:=Option.isSome_iff_exists.1 hds
  simp only [resolve,lop_get (hb.guard i o ho) ho,hd] at ht
  obtain ⟨op,hop⟩ : ∃ op,o.op = op:=⟨_,rfl⟩
  rw [hop] at ht hbd
  cases op <;> first | (cases hbd;done) | skip
  simp only [rtZp,topsE] at ht
  obtain ⟨v,hv,ht⟩:=ht
  refine tree_run hb hN hk hp t (i :: S) (i :: D) [] [] _ _ hc ht l Sa E pub σ a w h1 h2 (tree_soon hb ho hed2 hiS' hd (by rw [hop];rfl) hil h3 ?_) hs he (fun q hq=>by cases hq)
  rw [hop]
  exact hv
 | .br (.zp _ _) b,S,D,Ck,A,e,s,hc,ht,l,Sa,E,pub,σ,a,w,h1,h2,h3,hs,he,hA=>by simp [chkT] at hc
 | .br .fin b,S,D,Ck,A,e,s,hc,ht,l,Sa,E,pub,σ,a,w,h1,h2,h3,hs,he,hA=>by simp [chkT] at hc
 | .br (.ck _ _) b,S,D,Ck,A,e,s,hc,ht,l,Sa,E,pub,σ,a,w,h1,h2,h3,hs,he,hA=>by simp [chkT] at hc
 | .br (.br _ _) b,S,D,Ck,A,e,s,hc,ht,l,Sa,E,pub,σ,a,w,h1,h2,h3,hs,he,hA=>by simp [chkT] at hc
def chkTree (ops : Array Oper) (t : MT) : Bool:=treeBase ops && chkT ops t [] [] [] []
theorem EvL.tree {z : Bool} {m : Nat} {e : Env} {s : Store} {K : Post} (t : MT) (hmix : P.follows .mixedOrders = true) (hchk : chkTree ops t = true) (hN : ∀ o ∈ ops.toList,∀ d,o.dst = some d → d ∈ N) (h : topsE P (fun v s'=>K (pan1 v) (fun _=>.any) s') (resolve z (lopsL (dsts ops.toList) ops.toList) t) e s (K .normal)) : EvL P N m (.drawn ops) e s K:=by
 intro c hc C pub σ a w hm hs he
 cases c <;> simp only [light] at hc <;> first | (cases hc;done) | skip
 rename_i id ops' draw
 cases draw <;> simp only [regL] at hc <;> first | (cases hc;done) | skip
 cases hc
 refine wp_region_draw fun u=>?_
 rw [hmix]
 have hs1 : SR C pub σ s { w with drawn:=w.drawn + 1 }:=hs.drawn rfl rfl rfl rfl
 unfold chkTree at hchk
 rw [Bool.and_eq_true] at hchk
 have hb:=treeBase_ok hchk.1
 obtain ⟨hch,hall⟩:=schedule_chain hb.edge u
 refine tree_run hb (fun i o d ho hd=>hN o (by rw [← Array.getElem?_toList] at ho;exact List.mem_of_getElem? ho) d hd) (k:=K .normal) (fun e' s' pub' σ' a' w' hk hs' he'=>⟨e',s',pub',σ',hk,hs',he'⟩) (fun v s' pub' σ' a' w' hk hs' he'=>⟨_,s',pub',σ',hk,hs',he'⟩) t [] [] [] [] e s hchk.2 h _ [] e pub σ a _ hch (fun i hi=>.inr (hall i hi)) ?_ hs1 he (fun q hq=>by cases hq)
 exact ⟨(fun i h=>by cases h),(fun i h=>by cases h),(fun i h=>by cases h),(fun i h=>by cases h),(fun i h=>by cases h),(fun i h=>by cases h),fun t _=>rfl⟩
end
end Go.Pv
