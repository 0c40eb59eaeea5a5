import Derived.Test.YtbimioonhfhflaaDPvDraw
set_option linter.unusedVariables false
set_option linter.unusedSimpArgs false
namespace Go.Pv
open Go Go.RowKit
section
variable {P : Program} {N : FrN} {m : Nat} {e e' : Env} {s : Store} {K : Post}
theorem wop_congr {op : Op} {k : PV → Store → Prop} (h : WOp P op e s k) (hx : ∀ x ∈ op.operands, evO e x = evO e' x) : WOp P op e' s k:=by
  cases op
  case call c=>
    obtain ⟨cc, cargs, cTs⟩:=c
    have h2 : cargs.toList.map (evO e) = cargs.toList.map (evO e'):=List.map_congr_left fun x hm=>hx x (by cases cc <;> simp_all [Op.operands, Call.operands])
    cases cc with
    | builtin b=>simp only [WOp] at h ⊢;rw [← h2];exact h
    | value f=>
      have h3 : evO e f = evO e' f:=hx f (by simp [Op.operands, Call.operands])
      simp only [WOp] at h ⊢
      rw [← h2, ← h3];exact h
    | invoke r n=>simp only [WOp] at h ⊢;rw [← h2];exact h
  case build T parts=>
    have h2 : parts.toList.map (fun p=>(p.1, evO e p.2)) = parts.toList.map fun p=>(p.1, evO e' p.2):=List.map_congr_left fun p hp=>by
      rw [hx p.2 (by simp only [Op.operands, List.mem_toArray, List.mem_map];exact ⟨p, by simpa using hp, rfl⟩)]
    simp only [WOp] at h ⊢
    rw [← h2];exact h
  case buildSlice T len parts=>
    have h2 : parts.toList.map (fun p=>(p.1, evO e p.2)) = parts.toList.map fun p=>(p.1, evO e' p.2):=List.map_congr_left fun p hp=>by
      rw [hx p.2 (by simp only [Op.operands, List.mem_toArray, List.mem_map];exact ⟨p, by simpa using hp, rfl⟩)]
    simp only [WOp] at h ⊢
    rw [← h2];exact h
  case makeFunc f xs ys=>
    have h2 : xs.toList.map (evO e) = xs.toList.map (evO e'):=List.map_congr_left fun x hm=>hx x (by simp_all [Op.operands])
    have h3 : ys.toList.map (evO e) = ys.toList.map (evO e'):=List.map_congr_left fun x hm=>hx x (by simp_all [Op.operands])
    simp only [WOp] at h ⊢
    rw [← h2, ← h3];exact h
  case slice T x lo hi mx=>
    have h0 : evO e x = evO e' x:=hx x (by simp [Op.operands])
    have h1 : lo.map (evO e) = lo.map (evO e'):=by cases lo with | none=>rfl | some y=>simp [hx y (by simp [Op.operands])]
    have h2 : hi.map (evO e) = hi.map (evO e'):=by cases hi with | none=>rfl | some y=>simp [hx y (by simp [Op.operands])]
    cases mx with
    | none=>simp only [WOp] at h ⊢;rw [← h0, ← h1, ← h2];exact h
    | some y=>
      have h3 : evO e y = evO e' y:=hx y (by simp [Op.operands])
      cases hi with
      | none=>exact h.elim
      | some z=>
        have h4 : evO e z = evO e' z:=hx z (by simp [Op.operands])
        simp only [WOp] at h ⊢;rw [← h0, ← h1, ← h3, ← h4];exact h
  case unOp u T x=>
    have h0 : evO e x = evO e' x:=hx x (by simp [Op.operands])
    cases u <;> simp only [WOp] at h ⊢ <;> first | exact h.elim | (rw [← h0];exact h)
  case next it b=>
    cases b with
    | true => have h0 : evO e it = evO e' it := hx it (by simp [Op.operands])
              simp only [WOp] at h ⊢;rw [← h0];exact h
    | false=>exact h.elim
  case makeMap T r=>
    cases r with
    | none=>exact h
    | some r=>exact h.elim
  all_goals first|exact h | exact h.elim | (simp only [WOp] at h ⊢;simp [Op.operands] at hx;simp only [← hx];exact h)
def WG (P : Program) (o : LOp) (e : Env) (s : Store) (k : PV → Store → Prop) : Prop:=match o.g with
 | none=>WOp P o.op e s k
 | some (some d,b)=>∃ t,gdV (e d) = some t ∧ (t = some b → WOp P o.op e s k) ∧ (t ≠ some b → k (.tuple []) s)
 | some (none,_)=>False
def WMix (P : Program) (N : FrN) (sw : Bool) : Nat → List LOp → Env → Store → Store → (Env → Store → Prop) → Prop
 | 0,ops,e,s,f,k=>WOps P N ops e (s ++ f) k
 | n + 1,[],e,s,f,k=>False
 | n + 1,o :: r,e,s,f,k=>(∀ d,o.d = some d → d ∈ N) ∧
  ((∃ v,(∀ t,WG P o e (s ++ t) (fun v' s'=>v' = v ∧ s' = s ++ t)) ∧ WMix P N sw n r (e.upd o.d v) s f k ∧ ((sw && n == 0) = true → ∃ b c,r = [b,c] ∧ WOps P N [b,o,c] e (s ++ f) k)) ∨
   (f = [] ∧ (sw && n == 0) = false ∧ ∃ v f2,f2 ≠ [] ∧ WG P o e s (fun v' s'=>v' = v ∧ s' = s ++ f2) ∧ WMix P N sw n r (e.upd o.d v) s f2 k))
theorem WMix.cons {sw : Bool} {n : Nat} {o : LOp} {r : List LOp} {f : Store} {k : Env → Store → Prop} {v : PV} (hd : ∀ d,o.d = some d → d ∈ N) (hn : (sw && n == 0) = false) (h : ∀ t,WG P o e (s ++ t) (fun v' s'=>v' = v ∧ s' = s ++ t)) (g : WMix P N sw n r (e.upd o.d v) s f k) : WMix P N sw (n + 1) (o :: r) e s f k:=⟨hd,.inl ⟨v,h,g,fun h=>by rw [hn] at h;cases h⟩⟩
theorem WMix.make {sw : Bool} {n : Nat} {o : LOp} {r : List LOp} {k : Env → Store → Prop} {v : PV} {f2 : Store} (hd : ∀ d,o.d = some d → d ∈ N) (hn : (sw && n == 0) = false) (h : WG P o e s (fun v' s'=>v' = v ∧ s' = s ++ f2)) (hf : f2 ≠ []) (g : WMix P N sw n r (e.upd o.d v) s f2 k) : WMix P N sw (n + 1) (o :: r) e s [] k:=⟨hd,.inr ⟨rfl,hn,v,f2,hf,h,g⟩⟩
theorem WMix.tail {sw : Bool} {ops : List LOp} {f : Store} {k : Env → Store → Prop} (h : WOps P N ops e (s ++ f) k) : WMix P N sw 0 ops e s f k:=h
theorem WMix.both {a b c : LOp} {f : Store} {k : Env → Store → Prop} {v : PV} (hd : ∀ d,a.d = some d → d ∈ N) (h : ∀ t,WG P a e (s ++ t) (fun v' s'=>v' = v ∧ s' = s ++ t)) (g : WOps P N [b,c] (e.upd a.d v) (s ++ f) k) (g2 : WOps P N [b,a,c] e (s ++ f) k) : WMix P N true 1 [a,b,c] e s f k:=⟨hd,.inl ⟨v,h,g,fun _=>⟨b,c,rfl,g2⟩⟩⟩
theorem WG.call {d : Option Tmp} {f : Operand} {args : Array Operand} {Ts : Array TypeId} {fid : FuncId} {xs ys : List PV} {v : PV}
  (hf : evO e f = .fn (.func fid) xs ys) (hen : Enters P fid) (hc : CallOK P fid (xs ++ args.toList.map (evO e) ++ ys) s v s) : WG P ⟨d,.call ⟨.value f,args,Ts⟩,none⟩ e s (fun v' s'=>v' = v ∧ s' = s):=
 ⟨fid,xs,ys,v,s,hf,hen,hc,rfl,rfl⟩
def guardTmp (ops : Array Oper) (o : Oper) : List Tmp:=match o.guard with
 | none=>[]
 | some (j,_)=>match (ops[j]?).bind (·.dst) with
  | some t=>[t]
  | none=>[]
def noSt (ops : Array Oper) (m : Nat) : Bool:=(List.range m).all fun i=>match ops[i]? with
 | some { op:=.store ..,.. }=>false
 | _=>true
def mixChk (ops : Array Oper) (m : Nat) (sw : Bool:=false) : Bool:=
 noSt ops m && (decide (m ≤ ops.size) && (!sw || (decide (ops.size = m + 2) && decide (0 < m))) && (List.range ops.size).all fun i=>match ops[i]? with
  | none=>false
  | some o=>(edgesOn o).all (fun j=>decide (j < i)) &&
   (if i < m then ((List.range m).all (fun j=>j == i || o.dst.isNone || !((ops[j]?).map (·.dst) == some o.dst))) &&
    (tmpsOf o ++ guardTmp ops o).all fun t=>(List.range m).all fun j=>!((ops[j]?).map (·.dst) == some (some t)) || (decide (j < i) && reaches ops ops.size i j) || (decide (i < j) && reaches ops ops.size j i)
   else (List.range (if sw && i == m then m - 1 else i)).all fun j=>reaches ops ops.size i j))
def putsE (e : Env) (D : Nat → Option Tmp) (V : Nat → PV) : List Nat → Env
 | []=>e
 | i :: S=>(putsE e D V S).upd (D i) (V i)
theorem upd_other {e : Env} {d : Option Tmp} {v : PV} {t : Tmp} (h : d ≠ some t) : e.upd d v t = e t:=by
 cases d with
 | none=>rfl
 | some d=>simp only [Env.upd];rw [if_neg];intro h';subst h';exact h rfl
theorem upd_same {e : Env} {v : PV} {t : Tmp} : e.upd (some t) v t = v:=by simp [Env.upd]
theorem putsE_other {D : Nat → Option Tmp} {V : Nat → PV} {t : Tmp} : ∀ {S : List Nat},(∀ j ∈ S,D j ≠ some t) → putsE e D V S t = e t:=by
 intro S
 induction S with
 | nil=>intro _;rfl
 | cons i S ih=>intro h;rw [putsE,upd_other (h i (by simp))];exact ih fun j hj=>h j (by simp [hj])
theorem putsE_same {D : Nat → Option Tmp} {V : Nat → PV} {t : Tmp} {i : Nat} (hd : D i = some t) : ∀ {S : List Nat},i ∈ S → (∀ j ∈ S,D j = some t → j = i) → putsE e D V S t = V i:=by
 intro S
 induction S with
 | nil=>intro h;cases h
 | cons k S ih=>
  intro hi hu
  by_cases hk : D k = some t
  ·have := hu k (by simp) hk
   subst this
   rw [putsE,hd,upd_same]
  ·rw [putsE,upd_other hk]
   refine ih ?_ fun j hj=>hu j (by simp [hj])
   rcases List.mem_cons.1 hi with rfl | h
   ·exact absurd hd hk
   ·exact h
theorem wmix_vals {sw : Bool} {ds : List (Option Nat)} {k : Env → Store → Prop} : ∀ (m : Nat) (R : List Oper) (e : Env) (f : Store),WMix P N sw m (lopsL ds R) e s f k →
  m ≤ R.length ∧ ∃ (V : Nat → PV) (A : Option Nat) (f' : Store),(∀ (i : Nat) (o : Oper),i < m → R[i]? = some o → (∀ d,o.dst = some d → d ∈ N) ∧
    ((A ≠ some i ∧ ∀ t,WG P (lop ds o) (putsE e (fun i=>((R[i]?).map (·.dst)).getD none) V ((List.range i).reverse)) (s ++ t) (fun v' s'=>v' = V i ∧ s' = s ++ t)) ∨
     (A = some i ∧ WG P (lop ds o) (putsE e (fun i=>((R[i]?).map (·.dst)).getD none) V ((List.range i).reverse)) s (fun v' s'=>v' = V i ∧ s' = s ++ f')))) ∧
   (A = none → f' = f) ∧ (A ≠ none → f = []) ∧ (∀ a,A = some a → a < m) ∧
   WOps P N (lopsL ds (R.drop m)) (putsE e (fun i=>((R[i]?).map (·.dst)).getD none) V ((List.range m).reverse)) (s ++ f') k ∧
   (sw = true → 0 < m → A ≠ some (m - 1) ∧ ∃ o b c,R[m - 1]? = some o ∧ lopsL ds (R.drop m) = [b,c] ∧ WOps P N [b,lop ds o,c] (putsE e (fun i=>((R[i]?).map (·.dst)).getD none) V ((List.range (m - 1)).reverse)) (s ++ f') k):=by
 intro m
 induction m with
 | zero=>intro R e f h;exact ⟨Nat.zero_le _,fun _=>.any,none,f,fun i o hi=>absurd hi (Nat.not_lt_zero _),(fun _=>rfl),(fun h=>absurd rfl h),(fun a (h : none = some a)=>by cases h),(by cases R <;> exact h),fun _ h=>absurd h (Nat.lt_irrefl _)⟩
 | succ m ih=>
  intro R e f h
  cases R with
  | nil=>exact h.elim
  | cons o R=>
   obtain ⟨hN,h⟩:=h
   have key : ∀ (v : PV) (V : Nat → PV) n,putsE e (fun i=>(((o :: R)[i]?).map (·.dst)).getD none) (fun i=>if i = 0 then v else V (i - 1)) ((List.range (n + 1)).reverse) = putsE (e.upd (lop ds o).d v) (fun i=>((R[i]?).map (·.dst)).getD none) V ((List.range n).reverse):=by
    intro v V n
    induction n with
    | zero=>rfl
    | succ n ih2=>
     rw [List.range_succ,List.reverse_append]
     conv=>rhs;rw [List.range_succ,List.reverse_append]
     simp only [List.reverse_cons,List.reverse_nil,List.nil_append,List.cons_append,putsE]
     rw [ih2]
     simp
   rcases h with ⟨v,hv,hr,hal⟩ | ⟨hf,hno,v,f2,hne,hg,hr⟩
   ·obtain ⟨h1,V,A,f',h2,h3,h4,h5,h6,h7⟩ := ih R _ f hr
    refine ⟨by simp;omega,fun i=>if i = 0 then v else V (i - 1),A.map (· + 1),f',fun i o' hi ho'=>?_,fun h=>h3 (by cases A <;> simp_all),fun h=>h4 (by cases A <;> simp_all),fun a ha=>?_,?_,fun hsw _=>?_⟩
    ·cases i with
     | zero=>simp at ho';subst ho';exact ⟨hN,.inl ⟨by cases A <;> simp,hv⟩⟩
     | succ i=>
      obtain ⟨g1,g2⟩:=h2 i o' (by omega) (by simpa using ho')
      refine ⟨g1,?_⟩
      rw [key]
      rcases g2 with ⟨g2,g3⟩ | ⟨g2,g3⟩
      ·exact .inl ⟨by cases A <;> simp_all,by simpa using g3⟩
      ·exact .inr ⟨by simp [g2],by simpa using g3⟩
    ·cases A with
     | none=>cases ha
     | some b=>have:=h5 b rfl;simp at ha;omega
    ·rw [key];simpa using h6
    ·cases m with
     | zero=>
      have hA : A = none:=by
       cases A with
       | none=>rfl
       | some a=>exact absurd (h5 a rfl) (Nat.not_lt_zero _)
      have hf':=h3 hA
      subst hA;subst hf'
      obtain ⟨b,c,hbc,hw⟩:=hal (by simp [hsw])
      exact ⟨by simp,o,b,c,rfl,hbc,hw⟩
     | succ m=>
      obtain ⟨g1,o',b,c,g2,g3,g4⟩:=h7 hsw (Nat.succ_pos _)
      refine ⟨by cases A <;> simp_all,o',b,c,by simpa using g2,by simpa using g3,?_⟩
      rw [show m + 1 + 1 - 1 = m + 1 from rfl,key]
      simpa using g4
   ·subst hf
    obtain ⟨h1,V,A,f',h2,h3,h4,h5,h6,h7⟩:=ih R _ _ hr
    have hA : A = none:=by
     cases A with
     | none=>rfl
     | some a=>exact absurd (h4 (by simp)) hne
    subst hA
    have hf':=h3 rfl
    subst hf'
    refine ⟨by simp;omega,fun i=>if i = 0 then v else V (i - 1),some 0,f',fun i o' hi ho'=>?_,(fun h=>by cases h),fun _=>rfl,fun a ha=>by cases ha;omega,?_,fun hsw _=>?_⟩
    ·cases i with
     | zero=>
      simp at ho';subst ho'
      exact ⟨hN,.inr ⟨rfl,hg⟩⟩
     | succ i=>
      obtain ⟨g1,g2⟩:=h2 i o' (by omega) (by simpa using ho')
      refine ⟨g1,?_⟩
      rw [key]
      rcases g2 with ⟨g2,g3⟩ | ⟨g2,_⟩
      ·exact .inl ⟨by simp,by simpa using g3⟩
      ·cases g2
    ·rw [key];simpa using h6
    ·cases m with
     | zero=>rw [hsw] at hno;cases hno
     | succ m=>
      obtain ⟨g1,o',b,c,g2,g3,g4⟩:=h7 hsw (Nat.succ_pos _)
      refine ⟨by simp,o',b,c,by simpa using g2,by simpa using g3,?_⟩
      rw [show m + 1 + 1 - 1 = m + 1 from rfl,key]
      simpa using g4
theorem WG.run {ops : Array Oper} {o : Oper} {k : PV → Store → Prop} {C : Ctx} {pub : PHeap} {σ : Sig} {a : Act} {w : World} {Q : Act → World → Prop} {Q' : Exit → Act → World → Prop} (h : WG P (lop (dsts ops.toList) o) e s k) (hN : ∀ d,o.dst = some d → d ∈ N) (hs : SR C pub σ s w) (he : ER pub σ N e a)
  (hn : ∀ v s' pub' σ' a' w',k v s' → SR C pub' σ' s' w' → ER pub' σ' N (e.upd o.dst v) a' → Q a' w') :
  if Region.wanted o (yielded ops a.tmps) then o.wp P a w Q Q' else Q (a.put o.dst undef) w:=by
 have go : WOp P o.op e s k → o.wp P a w Q Q':=by
  intro hw
  refine wop_ok (N:=N) hw C pub σ a w _ _ hs he ?_
  intro v s' cv pub' σ' w' hk' hs' he' hr'
  exact hn v s' pub' σ' _ w' hk' hs' (he'.put _ hN hr')
 unfold WG lop at h
 cases hg : o.guard with
 | none=>
  simp only [hg] at h
  have : Region.wanted o (yielded ops a.tmps) = true:=by simp [Region.wanted,hg]
  rw [if_pos this]
  exact go h
 | some g=>
  obtain ⟨j,b⟩:=g
  simp only [hg] at h
  cases hx : nth (dsts ops.toList) j with
  | none=>simp only [hx] at h
  | some d=>
   simp only [hx] at h
   obtain ⟨t,ht,h1,h2⟩:=h
   have hdst : (ops[j]?).bind (·.dst) = some d:=by
    rw [nth_eq,dsts_eq,List.getElem?_map,Array.getElem?_toList] at hx
    cases hx' : ops[j]? with
    | none=>simp [hx'] at hx
    | some oo=>simpa [hx'] using hx
   have hyield:=yield_of he hdst ht
   by_cases htb : t = some b
   ·have : Region.wanted o (yielded ops a.tmps) = true := by simp [Region.wanted,hg,hyield,htb]
    rw [if_pos this]
    exact go (h1 htb)
   ·have : Region.wanted o (yielded ops a.tmps) = false := by simp [Region.wanted,hg,hyield,htb]
    rw [if_neg (by simp [this])]
    exact hn _ _ _ _ _ _ (h2 htb) hs (he.put _ hN (.tuple rfl fun j v c h=>by simp at h))
theorem wg_congr {ops : Array Oper} {o : Oper} {k : PV → Store → Prop} (h : WG P (lop (dsts ops.toList) o) e s k) (hx : ∀ t ∈ tmpsOf o ++ guardTmp ops o,e t = e' t) : WG P (lop (dsts ops.toList) o) e' s k:=by
 have hev : ∀ x ∈ o.op.operands,evO e x = evO e' x:=by
  intro x hm
  cases x with
  | tmp t=>
   have:=hx t (by
    rw [List.mem_append];refine .inl ?_
    simp only [tmpsOf,List.mem_filterMap]
    exact ⟨.tmp t,by simpa using hm,rfl⟩)
   simpa [evO] using this
  | const v=>rfl
  | global g=>rfl
  | func f=>rfl
 unfold WG lop at h ⊢
 cases hg : o.guard with
 | none=>simp only [hg] at h ⊢;exact wop_congr h hev
 | some g=>
  obtain ⟨j,b⟩:=g
  simp only [hg] at h ⊢
  cases hn : nth (dsts ops.toList) j with
  | none=>simp only [hn] at h
  | some d=>
   simp only [hn] at h ⊢
   obtain ⟨t,ht,h1,h2⟩:=h
   have hdst : (ops[j]?).bind (·.dst) = some d:=by
    rw [nth_eq,dsts_eq,List.getElem?_map,Array.getElem?_toList] at hn
    cases hx' : ops[j]? with
    | none=>simp [hx'] at hn
    | some oo=>simpa [hx'] using hn
   have hd : e d = e' d:=hx d (by rw [List.mem_append];refine .inr ?_;simp [guardTmp,hg,hdst])
   exact ⟨t,by rw [← hd];exact ht,fun h'=>wop_congr (h1 h') hev,h2⟩
def filled (A : Option Nat) (f : Store) (S : List Nat) : Store:=match A with
 | none=>[]
 | some a=>if a ∈ S then f else []
theorem wops_wg {ds : List (Option Nat)} {o : Oper} {r : List LOp} {k : Env → Store → Prop} (hW : WOps P N (lop ds o :: r) e s k) : (∀ d,o.dst = some d → d ∈ N) ∧ WG P (lop ds o) e s fun v s'=>WOps P N r (e.upd o.dst v) s' k:=by
 simp only [WOps] at hW
 unfold WG
 cases hg : (lop ds o).g with
 | none=>rw [hg] at hW;exact hW
 | some g=>
  obtain ⟨j,b⟩:=g
  cases j with
  | none=>rw [hg] at hW;exact hW.elim
  | some d=>rw [hg] at hW;exact hW
theorem run_ops {ops : Array Oper} {k : Env → Store → Prop} {C : Ctx} {Q : Exit → Act → World → Prop} (hk : ∀ e' s' pub' σ' a' w',k e' s' → SR C pub' σ' s' w' → ER pub' σ' N e' a' → Q .normal a' w') : ∀ (l : List Nat) (os : List Oper),(∀ i,i < l.length → ∃ q,l[i]? = some q ∧ ops[q]? = os[i]?) → os.length = l.length →
  ∀ (e : Env) (s : Store) (pub : PHeap) (σ : Sig) (ac : Act) (w : World),WOps P N (os.map (lop (dsts ops.toList))) e s k → SR C pub σ s w → ER pub σ N e ac → wpOps P ops Q l ac w:=by
 intro l
 induction l with
 | nil=>
  intro os _ hl e s pub σ ac w hW hs he
  cases os with
  | nil=>exact hk _ _ _ _ _ _ hW hs he
  | cons=>cases hl
 | cons q l ih=>
  intro os hat hl e s pub σ ac w hW hs he
  cases os with
  | nil=>cases hl
  | cons o os=>
   obtain ⟨q',h1,h2⟩:=hat 0 (by simp)
   simp only [List.getElem?_cons_zero,Option.some.injEq] at h1 h2
   subst h1
   obtain ⟨hN,hG⟩:=wops_wg hW
   have hrun:=WG.run (Q':=Q) (Q:=fun a' w'=>wpOps P ops Q l a' w') hG hN hs he (fun v s' pub' σ' a' w' hk' hs' he'=>
    ih os (fun i hi=>by
     obtain ⟨q',g1,g2⟩:=hat (i + 1) (by simpa using hi)
     exact ⟨q',by simpa using g1,by simpa using g2⟩) (by simpa using hl) _ _ _ _ _ _ hk' hs' he')
   simp only [wpOps,h2]
   split at hrun
   ·rename_i hwt;rw [if_pos hwt];exact .inl hrun
   ·rename_i hwt;rw [if_neg hwt];exact hrun
theorem mix_ok {sw : Bool} {ops : Array Oper} {m' : Nat} (hchk : mixChk ops m' sw = true) {k : Env → Store → Prop} {C : Ctx} {pub : PHeap} {σ : Sig} {a : Act} {w : World} {Q : Exit → Act → World → Prop}
  (h : WMix P N sw m' (lopsL (dsts ops.toList) ops.toList) e s [] k) (hs : SR C pub σ s w) (he : ER pub σ N e a)
  (hk : ∀ e' s' pub' σ' a' w',k e' s' → SR C pub' σ' s' w' → ER pub' σ' N e' a' → Q .normal a' w') (t : Nat) : wpOps P ops Q (Region.schedule true ops t) a w:=by
 unfold mixChk at hchk
 rw [Bool.and_eq_true] at hchk
 replace hchk:=hchk.2
 rw [Bool.and_eq_true] at hchk
 obtain ⟨hc1,hc2⟩:=hchk
 rw [Bool.and_eq_true] at hc1
 have hm : m' ≤ ops.size:=by simpa using hc1.1
 have hsz2 : sw = true → ops.size = m' + 2 ∧ 0 < m':=fun h=>by have:=hc1.2;rw [h] at this;simpa using this
 rw [List.all_eq_true] at hc2
 have hop : ∀ i,i < ops.size → ∃ o,ops[i]? = some o ∧ (∀ j ∈ edgesOn o,j < i) ∧ (i < m' → (∀ j,j < m' → j ≠ i → o.dst ≠ none → (ops[j]?).map (·.dst) ≠ some o.dst) ∧
   ∀ t ∈ tmpsOf o ++ guardTmp ops o,∀ j,j < m' → (ops[j]?).map (·.dst) = some (some t) → (j < i ∧ reaches ops ops.size i j = true) ∨ (i < j ∧ reaches ops ops.size j i = true)) ∧
   (m' ≤ i → ∀ j,j < (if sw && i == m' then m' - 1 else i) → reaches ops ops.size i j = true):=by
  intro i hi
  have hx:=hc2 i (List.mem_range.2 hi)
  have ho : ops[i]? = some ops[i]:=Array.getElem?_eq_getElem hi
  rw [ho] at hx
  simp only [Bool.and_eq_true,List.all_eq_true,decide_eq_true_eq] at hx
  obtain ⟨h1,h2⟩:=hx
  refine ⟨ops[i],ho,h1,fun him=>?_,fun him=>?_⟩
  ·rw [if_pos him,Bool.and_eq_true,List.all_eq_true,List.all_eq_true] at h2
   obtain ⟨h3,h4⟩:=h2
   refine ⟨fun j hj hne hsome hd=>?_,fun t ht j hj hd=>?_⟩
   ·have := h3 j (List.mem_range.2 hj)
    rw [hd] at this
    simp only [Bool.or_eq_true,beq_iff_eq,Option.isNone_iff_eq_none] at this
    rcases this with (h5 | h5) | h5
    ·exact hne h5
    ·exact hsome h5
    ·simp at h5
   ·have := h4 t ht
    rw [List.all_eq_true] at this
    have:=this j (List.mem_range.2 hj)
    rw [hd] at this
    simp only [Bool.or_eq_true,Bool.and_eq_true,decide_eq_true_eq] at this
    rcases this with (h5 | h5) | h5
    ·simp at h5
    ·exact .inl h5
    ·exact .inr h5
  ·rw [if_neg (by omega),List.all_eq_true] at h2
   exact fun j hj=>h2 j (List.mem_range.2 (by simpa only [Bool.and_eq_true] using hj))
 obtain ⟨hch,hall⟩:=schedule_chain (fun i o ho j hj=>by
  obtain ⟨o',ho',h3,_⟩:=hop i (arr_lt ho)
  rw [ho] at ho';cases ho';exact h3 j hj) t
 obtain ⟨_,V,A,f',hV,hA0,_,hA1,hT,hal⟩:=wmix_vals m' ops.toList e [] h
 obtain ⟨fS,hfS⟩ : ∃ fS : List Nat → Store,fS = filled A f':=⟨_,rfl⟩
 obtain ⟨D,hD⟩ : ∃ D : Nat → Option Tmp,D = fun i=>((ops.toList[i]?).map (·.dst)).getD none:=⟨_,rfl⟩
 rw [← hD] at hV hT hal
 have hDj : ∀ j o,ops[j]? = some o → D j = o.dst:=fun j o ho=>by rw [hD];simp [Array.getElem?_toList,ho]
 have hdist : ∀ i j t,i < m' → j < m' → D i = some t → D j = some t → j = i:=by
  intro i j t hi hj h1 h2
  obtain ⟨o,ho,_,h3,_⟩:=hop i (by omega)
  obtain ⟨o',ho',_⟩:=hop j (by omega)
  rcases Nat.decEq j i with hne | heq
  ·refine absurd ?_ ((h3 hi).1 j hj hne (by rw [← hDj i o ho,h1]; simp))
   rw [ho'];simp only [Option.map_some,Option.some.injEq]
   rw [← hDj j o' ho',← hDj i o ho,h1,h2]
  ·exact heq
 have hfull : ∀ M,M ≤ m' → ∀ S : List Nat,(∀ i ∈ S,i < M) → (∀ i,i < M → i ∈ S) → putsE e D V S = putsE e D V ((List.range M).reverse):=by
  intro M hM S h1 h2
  funext t
  by_cases hex : ∃ j,j < M ∧ D j = some t
  ·obtain ⟨j,hj,hd⟩ := hex
   rw [putsE_same hd (h2 j hj) fun i hi hdi=>hdist j i t (by omega) (by have:=h1 i hi;omega) hd hdi]
   rw [putsE_same hd (by simp [hj]) fun i hi hdi=>hdist j i t (by omega) (Nat.lt_of_lt_of_le (List.mem_range.1 (List.mem_reverse.1 hi)) hM) hd hdi]
  ·rw [putsE_other fun j hj hd=>hex ⟨j,h1 j hj,hd⟩,putsE_other fun j hj hd=>hex ⟨j,by simpa using hj,hd⟩]
 -- the end: one after the other
 have fin : ∀ (l S : List Nat),Chain ops S l → (∀ i,i < ops.size → i ∈ S ∨ i ∈ l) → (∀ i ∈ S,∀ o,ops[i]? = some o → ∀ j ∈ edgesOn o,j ∈ S) → ∀ (i : Nat),m' ≤ i → i ≤ ops.size → (∀ j,j ∈ S ↔ j < i) → ∀ (e : Env) (s : Store) (pub : PHeap) (σ : Sig) (a : Act) (w : World),WOps P N (lopsL (dsts ops.toList) (ops.toList.drop i)) e s k → SR C pub σ s w → ER pub σ N e a → wpOps P ops Q l a w:=by
  intro l
  induction l with
  | nil=>
   intro S hc hcov hcl i hmi his hS e s pub σ a w hW hs he
   have : i = ops.size:=by
    rcases Nat.lt_or_ge i ops.size with h | h
    ·rcases hcov i h with h9 | h9
     ·exact absurd ((hS i).1 h9) (Nat.lt_irrefl _)
     ·cases h9
    ·omega
   rw [List.drop_eq_nil_of_le (by simp;omega)] at hW
   exact hk _ _ _ _ _ _ hW hs he
  | cons q l ih=>
   intro S hc hcov hcl i hmi his hS e s pub σ a w hW hs he
   cases hc with
   | cons hi hn hed hrest=>
    rename_i o
    have hq : q < ops.size:=arr_lt hi
    obtain ⟨o',ho',hlt,_,h4⟩:=hop q hq
    rw [hi] at ho';cases ho'
    have hqi : q = i:=by
     have h5 : ¬ q < i:=fun h=>hn ((hS q).2 h)
     rcases Nat.lt_or_ge i q with h6 | h6
     ·exact absurd ((hS i).1 (reaches_in hcl _ _ _ o hi hed (h4 (by omega) i (by rw [if_neg (by simp;omega)];exact h6)))) (Nat.lt_irrefl _)
     ·omega
    subst hqi
    have hdr : ops.toList.drop q = o :: ops.toList.drop (q + 1):=by
     rw [List.drop_eq_getElem_cons (by simpa using hq)]
     have : ops[q] = o:=by rw [Array.getElem?_eq_getElem hq] at hi;exact Option.some.inj hi
     simp [this]
    rw [hdr] at hW
    have hW' : (∀ d,o.dst = some d → d ∈ N) ∧ WG P (lop (dsts ops.toList) o) e s fun v s'=>WOps P N (lopsL (dsts ops.toList) (ops.toList.drop (q + 1))) (e.upd o.dst v) s' k:=by
     simp only [lopsL,WOps] at hW
     unfold WG
     cases hg : (lop (dsts ops.toList) o).g with
     | none=>rw [hg] at hW;exact hW
     | some g=>
      obtain ⟨j,b⟩:=g
      cases j with
      | none=>rw [hg] at hW;exact hW.elim
      | some d=>rw [hg] at hW;exact hW
    obtain ⟨hN,hG⟩:=hW'
    have hS' : ∀ j,j ∈ q :: S ↔ j < q + 1:=fun j=>by
     rw [List.mem_cons,hS j];omega
    have hrun:=WG.run (Q':=Q) (Q:=fun a' w'=>wpOps P ops Q l a' w') hG hN hs he (fun v s' pub' σ' a' w' hk' hs' he'=>
     ih (q :: S) hrest (fun i hi'=>by
      rcases hcov i hi' with h9 | h9
      ·exact .inl (by simp [h9])
      ·rcases List.mem_cons.1 h9 with rfl | h9
       ·exact .inl (by simp)
       ·exact .inr h9) (fun p hp op hop' j hj=>by
      rcases List.mem_cons.1 hp with rfl | hp
      ·rw [hi] at hop';cases hop';exact List.mem_cons_of_mem _ (hed j hj)
      ·exact List.mem_cons_of_mem _ (hcl p hp op hop' j hj)) (q + 1) (by omega) (by omega) hS' _ _ _ _ _ _ hk' hs' he')
    simp only [wpOps,hi]
    split at hrun
    ·rename_i hwt;rw [if_pos hwt];exact .inl hrun
    ·rename_i hwt;rw [if_neg hwt];exact hrun
 have hfSfull : ∀ S : List Nat,(∀ i,i < m' → i ∈ S) → fS S = f':=by
  intro S h
  rw [hfS]
  cases A with
  | none=>exact (hA0 rfl).symm
  | some a=>simp [filled,h a (hA1 a rfl)]
 -- whatever the order
 have key : ∀ (l S : List Nat),Chain ops S l → (∀ i,i < ops.size → i ∈ S ∨ i ∈ l) → (∀ i ∈ S,∀ o,ops[i]? = some o → ∀ j ∈ edgesOn o,j ∈ S) → (∀ i ∈ S,i < m') → ∀ (pub : PHeap) (σ : Sig) (a : Act) (w : World),SR C pub σ (s ++ fS S) w → ER pub σ N (putsE e D V S) a → wpOps P ops Q l a w:=by
  intro l
  induction l with
  | nil=>
   intro S hc hcov hcl hlt pub σ a w hs he
   have hcover : ∀ i,i < m' → i ∈ S:=fun i hi=>by
    rcases hcov i (by omega) with h9 | h9
    ·exact h9
    ·cases h9
   have hmn : m' = ops.size:=by
    rcases Nat.lt_or_ge m' ops.size with h | h
    ·rcases hcov m' h with h9 | h9
     ·exact absurd (hlt _ h9) (Nat.lt_irrefl _)
     ·cases h9
    ·omega
   rw [hfull m' (Nat.le_refl _) S hlt hcover] at he
   rw [hfSfull S hcover] at hs
   exact fin [] S hc hcov hcl m' (Nat.le_refl _) hm (fun j=>⟨hlt j,hcover j⟩) _ _ _ _ _ _ hT hs he
  | cons q l ih=>
   intro S hc hcov hcl hlt pub σ a w hs he
   have hc0:=hc
   cases hc with
   | cons hi hn hed hrest=>
    rename_i o
    have hq : q < ops.size:=arr_lt hi
    obtain ⟨o',ho',hlti,h3,h4⟩:=hop q hq
    rw [hi] at ho';cases ho'
    rcases Nat.lt_or_ge q m' with hqm | hqm
    ·obtain ⟨_,htm⟩ := h3 hqm
     obtain ⟨hN,hG⟩:=hV q o hqm (by rw [Array.getElem?_toList];exact hi)
     have hops : ∀ (s1 : Store) (kk : PV → Store → Prop),WG P (lop (dsts ops.toList) o) (putsE e D V ((List.range q).reverse)) s1 kk → WG P (lop (dsts ops.toList) o) (putsE e D V S) s1 kk:=fun s1 kk hG=>wg_congr (e':=putsE e D V S) hG (fun t ht=>by
      by_cases hex : ∃ j,j < m' ∧ D j = some t
      ·obtain ⟨j,hj,hd⟩ := hex
       obtain ⟨oj,hoj,_⟩:=hop j (by omega)
       have hdj : (ops[j]?).map (·.dst) = some (some t):=by rw [hoj];simp only [Option.map_some];rw [← hDj j oj hoj,hd]
       rcases htm t ht j hj hdj with ⟨h5,h6⟩ | ⟨h5,h6⟩
       ·have hjS : j ∈ S := reaches_in hcl _ _ _ o hi hed h6
        rw [putsE_same hd hjS fun p hp hdp=>hdist j p t hj (hlt p hp) hd hdp,putsE_same hd (by simp [h5]) fun p hp hdp=>hdist j p t hj (by simp at hp;omega) hd hdp]
       ·have hjS : j ∉ S := fun hjS => hn (reaches_in hcl _ _ _ oj hoj (hcl j hjS oj hoj) h6)
        rw [putsE_other fun p hp hdp=>by
         have:=hdist j p t hj (by simp at hp;omega) hd hdp
         simp at hp;omega,putsE_other fun p hp hdp=>hjS (hdist j p t hj (hlt p hp) hd hdp ▸ hp)]
      ·rw [putsE_other fun p hp hdp=>hex ⟨p,by simp at hp;omega,hdp⟩,putsE_other fun p hp hdp=>hex ⟨p,hlt p hp,hdp⟩])
     have hG' : WG P (lop (dsts ops.toList) o) (putsE e D V S) (s ++ fS S) (fun v' s'=>v' = V q ∧ s' = s ++ fS (q :: S)):=by
      rcases hG with ⟨hA,hG⟩ | ⟨hA,hG⟩
      ·have : fS (q :: S) = fS S := by
        rw [hfS]
        cases A with
        | none=>rfl
        | some b=>
         have hne : ¬ b = q:=fun e=>hA (by rw [e])
         simp [filled,hne]
       rw [this]
       exact hops _ _ (hG (fS S))
      ·have h1 : fS S = [] := by rw [hfS,hA]; simp [filled,hn]
       have h2 : fS (q :: S) = f':=by rw [hfS,hA];simp [filled]
       rw [h1,h2,List.append_nil]
       exact hops _ _ hG
     have hrun:=WG.run (Q':=Q) (Q:=fun a' w'=>wpOps P ops Q l a' w') hG' hN hs he (fun v s' pub' σ' a' w' hk' hs' he'=>by
      obtain ⟨rfl,rfl⟩:=hk'
      refine ih (q :: S) hrest (fun i hi'=>by
       rcases hcov i hi' with h9 | h9
       ·exact .inl (by simp [h9])
       ·rcases List.mem_cons.1 h9 with rfl | h9
        ·exact .inl (by simp)
        ·exact .inr h9) (fun p hp op hop' j hj=>by
       rcases List.mem_cons.1 hp with rfl | hp
       ·rw [hi] at hop';cases hop';exact List.mem_cons_of_mem _ (hed j hj)
       ·exact List.mem_cons_of_mem _ (hcl p hp op hop' j hj)) (fun p hp=>by
       rcases List.mem_cons.1 hp with rfl | hp
       ·exact hqm
       ·exact hlt p hp) _ _ _ _ hs' ?_
      rw [putsE,hDj q o hi];exact he')
     simp only [wpOps,hi]
     split at hrun
     ·rename_i hwt;rw [if_pos hwt];exact .inl hrun
     ·rename_i hwt;rw [if_neg hwt];exact hrun
    ·by_cases hcover : ∀ j,j < m' → j ∈ S
     ·rw [hfull m' (Nat.le_refl _) S hlt hcover] at he
      rw [hfSfull S hcover] at hs
      exact fin (q :: l) S hc0 hcov hcl m' (Nat.le_refl _) hm (fun j=>⟨hlt j,hcover j⟩) _ _ _ _ _ _ hT hs he
     ·-- the last of the first is still to come
      have hqs : sw = true ∧ q = m':=by
       refine Classical.byContradiction fun hno=>hcover fun j hj=>reaches_in hcl _ _ _ o hi hed (h4 hqm j ?_)
       rw [if_neg (by intro h;simp at h;exact hno h)];omega
      obtain ⟨hsw,rfl⟩:=hqs
      obtain ⟨hsz,hpos⟩:=hsz2 hsw
      have hrest2 : ∀ j,j < q - 1 → j ∈ S:=fun j hj=>reaches_in hcl _ _ _ o hi hed (h4 hqm j (by simp [hsw];exact hj))
      have hlast : q - 1 ∉ S:=fun h=>hcover fun j hj=>by
       rcases Nat.lt_or_ge j (q - 1) with h' | h'
       ·exact hrest2 j h'
       ·rw [show j = q - 1 by omega];exact h
      have hlt2 : ∀ i ∈ S,i < q - 1:=fun i hi'=>by
       have:=hlt i hi'
       rcases Nat.lt_or_ge i (q - 1) with h' | h'
       ·exact h'
       ·exact absurd (by rw [show q - 1 = i by omega];exact hi') hlast
      -- what is left
      have hl : l = [q - 1,q + 1]:=by
       cases hrest with
       | nil=>
        rcases hcov (q - 1) (by omega) with h | h
        ·exact absurd h hlast
        ·simp at h;omega
       | cons hi2 hn2 hed2 hrest3=>
        rename_i q2 l2 o2
        have hq2:=arr_lt hi2
        have hq2n : ¬ q2 < q - 1:=fun h=>hn2 (List.mem_cons_of_mem _ (hrest2 q2 h))
        have hq2q : q2 ≠ q:=fun h=>hn2 (by rw [h];simp)
        obtain ⟨o2',ho2',_,_,h42⟩:=hop q2 hq2
        rw [hi2] at ho2';cases ho2'
        have hq2' : q2 = q - 1:=by
         refine Classical.byContradiction fun hno=>?_
         have hq21 : q2 = q + 1:=by omega
         have hcl2 : ∀ i ∈ q :: S,∀ o,ops[i]? = some o → ∀ j ∈ edgesOn o,j ∈ q :: S:=fun p hp op hop' j hj=>by
          rcases List.mem_cons.1 hp with rfl | hp
          ·rw [hi] at hop';cases hop';exact List.mem_cons_of_mem _ (hed j hj)
          ·exact List.mem_cons_of_mem _ (hcl p hp op hop' j hj)
         have:=reaches_in hcl2 _ _ _ o2 hi2 hed2 (h42 (by omega) (q - 1) (by rw [if_neg (by simp;omega)];omega))
         rcases List.mem_cons.1 this with h | h
         ·omega
         ·exact hlast h
        subst hq2'
        cases hrest3 with
        | nil=>
         rcases hcov (q + 1) (by omega) with h | h
         ·have:=hlt _ h;omega
         ·simp at h;omega
        | cons hi3 hn3 hed3 hrest4=>
         rename_i q3 l3 o3
         have hq3:=arr_lt hi3
         have g1 : ¬ q3 < q - 1:=fun h=>hn3 (List.mem_cons_of_mem _ (List.mem_cons_of_mem _ (hrest2 q3 h)))
         have g2 : q3 ≠ q:=fun h=>hn3 (by rw [h];simp)
         have g3 : q3 ≠ q - 1:=fun h=>hn3 (by rw [h];simp)
         have hq31 : q3 = q + 1:=by omega
         subst hq31
         cases hrest4 with
         | nil=>rfl
         | cons hi4 hn4 hed4 hrest5=>
          rename_i q4 l4 o4
          have hq4:=arr_lt hi4
          have g4 : ¬ q4 < q - 1:=fun h=>hn4 (List.mem_cons_of_mem _ (List.mem_cons_of_mem _ (List.mem_cons_of_mem _ (hrest2 q4 h))))
          have g5 : q4 ≠ q:=fun h=>hn4 (by rw [h];simp)
          have g6 : q4 ≠ q - 1:=fun h=>hn4 (by rw [h];simp)
          have g7 : q4 ≠ q + 1:=fun h=>hn4 (by rw [h];simp)
          omega
      subst hl
      obtain ⟨hAne,oa,b,c,g1,g2,g3⟩:=hal hsw hpos
      rw [hfull (q - 1) (by omega) S hlt2 hrest2] at he
      have hfS2 : fS S = f':=by
       rw [hfS]
       cases A with
       | none=>exact (hA0 rfl).symm
       | some a=>
        have h1:=hA1 a rfl
        have h2 : a ≠ q - 1:=fun h=>hAne (by rw [h])
        simp [filled,hrest2 a (by omega)]
      rw [hfS2] at hs
      have hA : ops[q - 1]? = some (ops[q - 1]'(by omega)):=Array.getElem?_eq_getElem _
      have hB : ops[q + 1]? = some (ops[q + 1]'(by omega)):=Array.getElem?_eq_getElem _
      have hq0 : ops[q]? = some (ops[q]'(by omega)):=Array.getElem?_eq_getElem _
      have hdr : ops.toList.drop q = [ops[q]'(by omega), ops[q + 1]'(by omega)]:=by
       rw [List.drop_eq_getElem_cons (by simp;omega),List.drop_eq_getElem_cons (by simp;omega),List.drop_eq_nil_of_le (by simp;omega)]
       simp
      rw [hdr] at g2
      simp only [lopsL,List.cons.injEq,and_true] at g2
      obtain ⟨rfl,rfl⟩:=g2
      rw [Array.getElem?_toList,hA] at g1
      cases g1
      refine run_ops hk [q, q - 1, q + 1] [ops[q]'(by omega), ops[q - 1]'(by omega), ops[q + 1]'(by omega)] (fun i hi'=>?_) rfl _ _ _ _ _ _ g3 hs he
      match i,hi' with
      | 0,_=>exact ⟨q,rfl,hq0⟩
      | 1,_=>exact ⟨q - 1,rfl,hA⟩
      | 2,_=>exact ⟨q + 1,rfl,hB⟩
 exact key _ [] hch (fun i hi=>.inr (hall i hi)) (fun i hi=>by cases hi) (fun i hi=>by cases hi) pub σ a w (by rw [hfS];cases A <;> simpa [filled] using hs) he
theorem EvL.mixk {ops : Array Oper} (n : Nat) (hmix : P.follows .mixedOrders = true) (hchk : mixChk ops n = true) (h : ∀ k : Env → Store → Prop,(∀ e' s',K .normal e' s' → k e' s') → WMix P N false n (lopsL (dsts ops.toList) ops.toList) e s [] k) : EvL P N m (.drawn ops) e s K:=by
 intro c hc C pub σ a w hm hs he
 cases c <;> simp only [light] at hc <;> first | (cases hc;done) | skip
 rename_i id ops' draw
 cases draw <;> simp only [regL] at hc <;> first | (cases hc;done) | skip
 cases hc
 refine wp_region_draw fun t=>?_
 rw [hmix]
 have hs1 : SR C pub σ s { w with drawn:=w.drawn + 1 }:=hs.drawn rfl rfl rfl rfl
 exact mix_ok hchk (k:=fun e' s'=>K .normal e' s') (h _ fun _ _ h=>h) hs1 he (fun e' s' pub' σ' a' w' hk hs' he'=>⟨e',s',pub',σ',hk,hs',he'⟩) t
theorem EvL.mixk2 {ops : Array Oper} (n : Nat) (hmix : P.follows .mixedOrders = true) (hchk : mixChk ops n true = true) (h : ∀ k : Env → Store → Prop,(∀ e' s',K .normal e' s' → k e' s') → WMix P N true n (lopsL (dsts ops.toList) ops.toList) e s [] k) : EvL P N m (.drawn ops) e s K:=by
 intro c hc C pub σ a w hm hs he
 cases c <;> simp only [light] at hc <;> first | (cases hc;done) | skip
 rename_i id ops' draw
 cases draw <;> simp only [regL] at hc <;> first | (cases hc;done) | skip
 cases hc
 refine wp_region_draw fun t=>?_
 rw [hmix]
 have hs1 : SR C pub σ s { w with drawn:=w.drawn + 1 }:=hs.drawn rfl rfl rfl rfl
 exact mix_ok hchk (k:=fun e' s'=>K .normal e' s') (h _ fun _ _ h=>h) hs1 he (fun e' s' pub' σ' a' w' hk hs' he'=>⟨e',s',pub',σ',hk,hs',he'⟩) t
end
end Go.Pv
