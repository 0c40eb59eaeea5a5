import Derived.Test.YtbimioonhfhflaaDPvQb
set_option linter.unusedVariables false
set_option linter.unusedSimpArgs false
namespace Go.Pv
open Go
section
variable {P : Program} {N : FrN} {m : Nat} {s : Store}
theorem sat_elim {α : Type} {o : Option α} {k : α → Prop} (h : Sat o k) : ∃ a,o = some a ∧ k a:=by
 cases o with
 | none=>exact h.elim
 | some a=>exact ⟨a,rfl,h⟩
theorem envOf_again {e : AE} {c : Nat} {v : PV} (h : envOf e c = v) : envOf ((c,v) :: e) = envOf e:=by
 funext t
 show (if t = c then v else envOf e t) = envOf e t
 split
 ·rename_i h';rw [h',h]
 ·rfl
theorem dop1_wop {d : Option Tmp} {op : Op} {e : AE} {k : AE → Store → Prop} {K : PV → Store → Prop} (h : dop1 P d op e s k) (hK : ∀ v s',k (updA e d v) s' → K v s') : WOp P op (envOf e) s K:=by
 unfold dop1 at h
 split at h
 ·rename_i f args Ts
  obtain ⟨fid,vs,v,s2,h1,h2,h3,h4⟩:=h
  obtain ⟨xs,ys,h5,rfl⟩:=fnArgs_some h1
  exact ⟨fid,xs,ys,v,s2,h5,h2,h3,hK _ _ h4⟩
 ·obtain ⟨⟨v,s'⟩,h1,h2⟩ := sat_elim h
  exact wop_of h1 (hK _ _ h2)
def AllLt (N : FrN) (ops : List LOp) : Prop:=∀ o ∈ ops,∀ d,o.d = some d → d ∈ N
theorem dops_wops : ∀ (ops : List LOp) (e : AE) (s : Store) (k : AE → Store → Prop) (K : Env → Store → Prop),AllLt N ops → dops P ops e s k → (∀ e s,k e s → K (envOf e) s) → WOps P N ops (envOf e) s K
 | [],e,s,k,K,_,h,hK=>hK _ _ h
 | ⟨d,op,g⟩ :: r,e,s,k,K,hN,h,hK=>by
  have hd:=hN ⟨d,op,g⟩ List.mem_cons_self
  have hr : AllLt N r:=fun o ho=>hN o (List.mem_cons_of_mem _ ho)
  cases g with
  | none=>
   refine ⟨hd,dop1_wop h fun v s' h'=>?_⟩
   have:=dops_wops r _ s' k K hr h' hK
   rwa [envOf_updA] at this
  | some cb=>
   obtain ⟨c,b⟩:=cb
   cases c with
   | none=>exact h.elim
   | some c=>
    simp only [dops] at h
    obtain ⟨t,ht,h1,h2⟩:=gdW_elim h
    refine ⟨hd,t,ht,fun hb=>?_,fun hb=>?_⟩
    ·obtain ⟨hv,h1⟩ := h1 hb
     have:=dop1_wop (K:=fun v s'=>WOps P N r ((envOf e).upd d v) s' K) h1 fun v s' h'=>by
      have:=dops_wops r _ s' k K hr h' hK
      rwa [envOf_updA,envOf_again hv] at this
     rwa [envOf_again hv] at this
    ·rcases h2 hb with ⟨hv,h2⟩ | ⟨hv,h2⟩
     ·have := dops_wops r _ s k K hr h2 hK
      rwa [envOf_updA,envOf_again hv] at this
     ·have := dops_wops r _ s k K hr h2 hK
      rwa [envOf_updA] at this
theorem xload_ext {ti : TI} {a v : PV} (t : Store) (h : xload ti s a = some v) : xload ti (s ++ t) a = some v:=by
 unfold xload at h ⊢
 split at h
 ·split at h
  ·rename_i hs
   rw [List.getElem?_append_left (lt_of_getElem? hs),hs];exact h
  ·cases h
 ·exact h
 ·cases h
theorem xindexAddr_ext {ti : TI} {x ix v : PV} (t : Store) (h : xindexAddr ti s x ix = some v) : xindexAddr ti (s ++ t) x ix = some v:=by
 unfold xindexAddr at h ⊢
 split at h
 ·rename_i kd i
  try dsimp only
  split at h
  ·rename_i hkd;first | exact h | (rw [hkd];exact h)
  ·rename_i hkd;first | exact h | (rw [hkd];exact h)
  ·rename_i hkd;first | exact h | (rw [hkd];exact h)
  ·rename_i hkd
   split at h
   ·rename_i hs
    try (rw [hkd])
    try dsimp only
    rw [List.getElem?_append_left (lt_of_getElem? hs),hs];exact h
   ·cases h
  ·cases h
 ·cases h
theorem xslice_ext {ti : TI} {x v : PV} {lo hi : Option PV} (t : Store) (h : xslice ti s x lo hi = some v) : xslice ti (s ++ t) x lo hi = some v:=by
 unfold xslice at h ⊢
 obtain ⟨l,h1,h2⟩:=Option.bind_eq_some_iff.1 h
 rw [h1,Option.bind_some]
 split at h2
 ·rename_i hkd;first | exact h2 | (rw [hkd];exact h2)
 ·rename_i hkd;first | exact h2 | (rw [hkd];exact h2)
 ·rename_i hkd
  split at h2
  ·rename_i hs
   try (rw [hkd])
   try dsimp only
   rw [List.getElem?_append_left (lt_of_getElem? hs),hs];exact h2
  ·cases h2
 ·rename_i hkd;first | exact h2 | (rw [hkd];exact h2)
 ·rename_i hkd
  split at h2
  ·rename_i hs
   try (rw [hkd])
   try dsimp only
   rw [List.getElem?_append_left (lt_of_getElem? hs),hs];exact h2
  ·cases h2
 ·cases h2
theorem xslice3_ext {ti : TI} {x v hi mx : PV} {lo : Option PV} (t : Store) (h : xslice3 ti s x lo hi mx = some v) : xslice3 ti (s ++ t) x lo hi mx = some v:=by
 unfold xslice3 at h ⊢
 replace h:=Option.bind_eq_some_iff.1 h
 obtain ⟨l,h1,h⟩:=h
 replace h:=Option.bind_eq_some_iff.1 h
 obtain ⟨hh,h2,h⟩:=h
 replace h:=Option.bind_eq_some_iff.1 h
 obtain ⟨m,h3,h⟩:=h
 rw [h1,Option.bind_some,h2,Option.bind_some,h3,Option.bind_some]
 split at h
 ·rename_i hc
  rw [if_pos hc]
  split at h
  ·rename_i hkd;first | exact h | (rw [hkd];exact h)
  ·rename_i hkd
   split at h
   ·rename_i hs
    try (rw [hkd])
    try dsimp only
    rw [List.getElem?_append_left (lt_of_getElem? hs),hs];exact h
   ·cases h
  ·rename_i hkd;first | exact h | (rw [hkd];exact h)
  ·cases h
 ·cases h
theorem ents_ext {m : PV} {es : List (PV × PV)} (t : Store) (h : entsP s m = some es) : entsP (s ++ t) m = some es:=by
 cases m <;> simp only [entsP] at h ⊢ <;> first | exact h | skip
 split at h
 ·rename_i hs
  rw [List.getElem?_append_left (lt_of_getElem? hs),hs];exact h
 ·cases h
theorem xlookup_ext {ti : TI} {m x : PV} {p : PV × Bool} (t : Store) (h : xlookup P ti s m x = some p) : xlookup P ti (s ++ t) m x = some p:=by
 unfold xlookup at h ⊢
 split at h
 ·rename_i hkd
  (try rw [hkd])
  (try dsimp only)
  obtain ⟨kti,h1,h2⟩:=Option.bind_eq_some_iff.1 h
  rw [h1,Option.bind_some]
  split at h2
  ·rename_i hkk
   rw [if_pos hkk]
   obtain ⟨es,h3,h4⟩:=Option.bind_eq_some_iff.1 h2
   rw [ents_ext t h3];exact h4
  ·cases h2
 ·cases h
theorem xop_read {op : Op} {E : Env} {v : PV} {s' : Store} (hr : isRead op = true) (h : xop P op E s = some (v,s')) : ∀ t,xop P op E (s ++ t) = some (v,s ++ t):=by
 intro u
 unfold xop at h
 have two : ∀ {α : Type} {f g : α → Option PV} {o : Option α},(o.bind fun ti=>(f ti).map fun v=>(v,s)) = some (v,s') → (∀ ti,f ti = some v → g ti = some v) → (o.bind fun ti=>(g ti).map fun v=>(v,s ++ u)) = some (v,s ++ u):=by
  intro α f g o h hg
  obtain ⟨ti,h1,h2⟩:=Option.bind_eq_some_iff.1 h
  obtain ⟨w,h3,h4⟩:=Option.map_eq_some_iff.1 h2
  cases h4
  rw [h1,Option.bind_some,hg ti h3];rfl
 have one : ∀ {o : Option PV},(o.map fun v=>(v,s)) = some (v,s') → (o.map fun v=>(v,s ++ u)) = some (v,s ++ u):=by
  intro o h
  obtain ⟨w,h1,h2⟩:=Option.map_eq_some_iff.1 h
  cases h2
  rw [h1];rfl
 split at h <;> (try (cases hr;done))
 case h_1=>cases h;rfl
 case h_2=>cases h;rfl
 case h_3=>exact one h
 case h_6=>exact two h fun ti h=>xload_ext u h
 case h_8=>exact two h fun ti h=>h
 case h_9=>exact one h
 case h_10=>exact one h
 case h_11=>
  obtain ⟨ti,h1,h2⟩:=Option.bind_eq_some_iff.1 h
  simp only [xop,h1,Option.bind_some]
  exact two h2 fun ti h=>h
 case h_12=>exact one h
 case h_13=>exact two h fun ti h=>h
 case h_14=>exact two h fun ti h=>h
 case h_15=>exact two h fun ti h=>xindexAddr_ext u h
 case h_16=>exact two h fun ti h=>h
 case h_18=>exact two h fun ti h=>xslice_ext u h
 case h_19=>exact two h fun ti h=>h
 case h_21=>cases h;rfl
 case h_22=>
  rename_i c
  obtain ⟨cc,cargs,cTs⟩:=c
  cases cc with
  | value f=>cases hr
  | invoke r n=>cases hr
  | builtin b=>
   cases b <;> (try (cases hr;done))
   ·simp only [xcall] at h
    simp only [xop,xcall]
    split at h
    ·rename_i hx hT
     (try rw [hx,hT])
     obtain ⟨ti,h1,h2⟩:=Option.bind_eq_some_iff.1 h
     obtain ⟨n,h3,h4⟩:=Option.map_eq_some_iff.1 h2
     cases h4
     (try dsimp only)
     rw [h1,Option.bind_some,h3];rfl
    ·cases h
   ·simp only [xcall] at h
    simp only [xop,xcall]
    split at h
    ·rename_i hx
     (try rw [hx])
     split at h <;> cases h
     rename_i hkk
     (try dsimp only)
     (first | rfl | (rw [if_pos hkk]))
    ·cases h
   ·simp only [xcall] at h
    simp only [xop,xcall]
    split at h
    ·rename_i hx
     (try rw [hx])
     split at h <;> cases h
     rename_i hkk
     (try dsimp only)
     (first | rfl | (rw [if_pos hkk]))
    ·cases h
 case h_26=>
  obtain ⟨ti,h1,h2⟩:=Option.bind_eq_some_iff.1 h
  obtain ⟨p,h3,h4⟩:=Option.map_eq_some_iff.1 h2
  cases h4
  simp only [xop,h1,Option.bind_some,xlookup_ext u h3,Option.map_some]
 case h_29=>exact one h
 case h_30=>exact two h fun ti h=>xslice3_ext u h
 case h_31=>cases h
theorem wfz_build {T : TypeId} {len : Nat} {parts : Array (Nat × Operand)} {E : Env} {rows : List (List PV)} (h1 : xfz P T len parts E = some rows) (h2 : ∀ row ∈ rows,∀ c ∈ row,Closed c) : WFz P (.buildSlice T len parts) E (.list rows):=by
 unfold xfz at h1
 obtain ⟨ti,g1,g2⟩:=Option.bind_eq_some_iff.1 h1
 unfold yfz at g2
 split at g2
 ·rename_i el esz by' ag z hk
  split at g2
  ·rename_i hc
   exact ⟨ti,el,esz,by',ag,z,rows,g1,hk,hc.1,hc.2.1,hc.2.2,g2,h2,rfl⟩
  ·cases g2
 ·cases g2
theorem wfz_append {args : Array Operand} {Ts : Array TypeId} {E : Env} {rows : List (List PV)} (h1 : xafz P args Ts E = some rows) : WFz P (.call ⟨.builtin .append,args,Ts⟩) E (.list rows):=by
 unfold xafz at h1
 split at h1
 ·rename_i x y T T2 ha hT
  obtain ⟨ti,g1,g2⟩:=Option.bind_eq_some_iff.1 h1
  obtain ⟨ti2,g3,g4⟩:=Option.bind_eq_some_iff.1 g2
  split at g4
  ·rename_i hn
   exact ⟨x,y,T,T2,ti,ti2,rows,by rw [← Array.toList_inj,ha],by rw [← Array.toList_inj,hT],g1,g3,(fun kd hk=>by rw [hk] at hn;cases hn),g4,rfl⟩
  ·cases g4
 ·cases h1
theorem wfz_zop {op : Op} {E : Env} {rows : List (List PV)} (h1 : xzop P op E = some rows) (h2 : xzcl op rows) : WFz P op E (.list rows):=by
 unfold xzop at h1
 split at h1
 ·exact wfz_build h1 h2
 ·exact wfz_append h1
 ·cases h1
theorem mop1_wg {lo : Option LOp} {d : Option Tmp} {op : Op} {e : AE} {f : Store} {k : PV → Store → Prop} (h : mop1 P lo d op e s f k) :
  (∃ v,(∀ t,WZ P op (envOf e) (s ++ t) (fun v' s'=>v' = v ∧ s' = s ++ t)) ∧ k v f) ∨ (f = [] ∧ (∀ l,lo = some l → d ≠ l.d) ∧ ∃ v f2,f2 ≠ [] ∧ WOp P op (envOf e) s (fun v' s'=>v' = v ∧ s' = s ++ f2) ∧ k v f2):=by
 unfold mop1 at h
 split at h
 ·rename_i g args Ts
  obtain ⟨fid,vs,v,h1,h2,h3,h4⟩:=h
  obtain ⟨xs,ys,h5,rfl⟩:=fnArgs_some h1
  exact .inl ⟨v,fun t=>.inl ⟨fid,xs,ys,v,s ++ t,h5,h2,h3 t,rfl,rfl⟩,h4⟩
 ·rename_i T len parts
  split at h
  ·obtain ⟨rows,h1,h2,h3⟩ := sat_elim h
   exact .inl ⟨.list rows,fun t=>.inr ⟨_,wfz_build h1 h2,rfl,rfl⟩,h3⟩
  ·obtain ⟨⟨v,s'⟩,h1,h2,h3,h4,h5,h6⟩ := sat_elim h
   refine .inr ⟨h2,fun l hl=>by subst hl;exact h3,v,s'.drop s.length,?_,wop_of h1 ⟨rfl,h5⟩,h6⟩
   intro e;have:=congrArg List.length e;simp at this;simp only at h4;omega
 ·rename_i args Ts
  split at h
  ·obtain ⟨rows,h1,h3⟩ := sat_elim h
   exact .inl ⟨.list rows,fun t=>.inr ⟨_,wfz_append h1,rfl,rfl⟩,h3⟩
  ·obtain ⟨⟨v,s'⟩,h1,h2,h3,h4,h5,h6⟩ := sat_elim h
   refine .inr ⟨h2,fun l hl=>by subst hl;exact h3,v,s'.drop s.length,?_,wop_of h1 ⟨rfl,h5⟩,h6⟩
   intro e;have:=congrArg List.length e;simp at this;simp only at h4;omega
 ·split at h
  ·rename_i hr
   obtain ⟨⟨v,s'⟩,h1,h2⟩:=sat_elim h
   exact .inl ⟨v,fun t=>.inl (wop_of (xop_read hr h1 t) ⟨rfl,rfl⟩),h2⟩
  ·obtain ⟨⟨v,s'⟩,h1,h2,h3,h4,h5,h6⟩ := sat_elim h
   refine .inr ⟨h2,fun l hl=>by subst hl;exact h3,v,s'.drop s.length,?_,wop_of h1 ⟨rfl,h5⟩,h6⟩
   intro e;have:=congrArg List.length e;simp at this;simp only at h4;omega
def rlo (lo : Option LOp) : Option LOp:=lo.bind fun l=>l.d.bind fun _=>some (unz l)
theorem rlo_some {lo : Option LOp} {l : LOp} (h : rlo lo = some l) : ∃ l0,lo = some l0 ∧ l = unz l0 ∧ ∃ d,l0.d = some d:=by
 unfold rlo at h
 obtain ⟨x,h1,h2⟩:=Option.bind_eq_some_iff.1 h
 obtain ⟨d,h3,h4⟩:=Option.bind_eq_some_iff.1 h2
 cases h4
 exact ⟨x,h1,rfl,d,h3⟩
theorem rlo_ne {lo : Option LOp} {d : Option Tmp} (h : ∀ l,lo = some l → d ≠ l.d) : ∀ l,rlo lo = some l → d ≠ l.d:=by
 intro l hl
 obtain ⟨l0,h0,rfl,_⟩:=rlo_some hl
 rw [unz_d];exact h l0 h0
theorem mops_wmix {lo : Option LOp} (hlo : ∀ l,lo = some l → ∀ d,l.d = some d → d ∈ N) : ∀ (n : Nat) (ops : List LOp) (e : AE) (f : Store) (k : AE → Store → Prop) (K : Env → Store → Prop),AllLt N ops → mops P lo n ops e s f k → (∀ e s,k e s → K (envOf e) s) → WMixT P N (rlo lo) (lateT P N (rlo lo) K) n ops (envOf e) s f
 | 0,ops,e,f,k,K,hN,h,hK=>by
  refine ⟨dops_wops ops e _ k K hN h.1 hK,fun l hl=>?_⟩
  obtain ⟨l0,hl0,rfl,dl,hdl⟩:=rlo_some hl
  subst hl0
  have h2:=h.2
  unfold lateA at h2
  simp only [hdl] at h2
  split at h2
  ·rename_i b r
   refine ⟨b,r,rfl,?_⟩
   rw [unz_d,hdl,← envOf_updA]
   refine dops_wops _ _ _ k K ?_ h2 hK
   intro o ho
   simp only [List.mem_cons] at ho
   rcases ho with rfl | rfl | ho
   ·exact hN _ List.mem_cons_self
   ·rw [unz_d];exact hlo _ rfl
   ·exact hN _ (List.mem_cons_of_mem _ ho)
  ·exact h2.elim
 | n + 1,[],e,f,k,K,hN,h,hK=>h.elim
 | n + 1,⟨d,op,g⟩ :: r,e,f,k,K,hN,h,hK=>by
  have hd:=hN ⟨d,op,g⟩ List.mem_cons_self
  have hr : AllLt N r:=fun o ho=>hN o (List.mem_cons_of_mem _ ho)
  refine ⟨hd,?_⟩
  cases g with
  | none=>
   have h1 : mop1 P lo d op e s f fun v f'=>mops P lo n r (updA e d v) s f' k:=h
   rcases mop1_wg h1 with ⟨v,h3,h4⟩ | ⟨h3,h4,v,f2,h5,h6,h7⟩
   ·refine .inl ⟨v,h3,?_⟩
    have:=mops_wmix hlo n r _ f k K hr h4 hK
    rwa [envOf_updA] at this
   ·refine .inr ⟨h3,rlo_ne h4,v,f2,h5,h6,?_⟩
    have:=mops_wmix hlo n r _ f2 k K hr h7 hK
    rwa [envOf_updA] at this
  | some cb=>
   obtain ⟨c,b⟩:=cb
   cases c with
   | none=>exact False.elim h
   | some c=>
    have h1 : GdW (envOf e c) b c e (fun e=>mop1 P lo d op e s f fun v f'=>mops P lo n r (updA e d v) s f' k) (fun e=>mops P lo n r (updA e d (.tuple [])) s f k):=h
    obtain ⟨t,ht,h1,h2⟩:=gdW_elim h1
    by_cases hb : t = some b
    ·obtain ⟨hv,h1⟩ := h1 hb
     rcases mop1_wg h1 with ⟨v,h3,h4⟩ | ⟨h3,h4,v,f2,h5,h6,h7⟩
     ·rw [envOf_again hv] at h3
      refine .inl ⟨v,fun t'=>⟨t,ht,fun _=>h3 t',fun hx=>absurd hb hx⟩,?_⟩
      have:=mops_wmix hlo n r _ f k K hr h4 hK
      rwa [envOf_updA,envOf_again hv] at this
     ·rw [envOf_again hv] at h6
      refine .inr ⟨h3,rlo_ne h4,v,f2,h5,⟨t,ht,fun _=>h6,fun hx=>absurd hb hx⟩,?_⟩
      have:=mops_wmix hlo n r _ f2 k K hr h7 hK
      rwa [envOf_updA,envOf_again hv] at this
    ·refine .inl ⟨.tuple [],fun t' => ⟨t,ht,fun hx => absurd hx hb,fun _ => ⟨rfl,rfl⟩⟩,?_⟩
     rcases h2 hb with ⟨hv,h2⟩ | ⟨hv,h2⟩
     ·have := mops_wmix hlo n r _ f k K hr h2 hK
      rwa [envOf_updA,envOf_again hv] at this
     ·have := mops_wmix hlo n r _ f k K hr h2 hK
      rwa [envOf_updA] at this
theorem tops_topsE {ka : KA} {kp : KPn} (hkp : ∀ v s,ka (pan1 v) [] s → kp v s) : ∀ (t : RT) (e : AE) (s : Store) (k : AE → Store → Prop) (K : Env → Store → Prop),tops P t e s ka k → (∀ e s,k e s → K (envOf e) s) → topsE P kp t (envOf e) s K
 | .fin,e,s,k,K,h,hK=>hK _ _ h
 | .bad,e,s,k,K,h,hK=>h.elim
 | .op d op t,e,s,k,K,h,hK=>by
  obtain ⟨⟨v,s'⟩,h1,h2⟩:=sat_elim h
  have:=tops_topsE hkp t _ _ k K h2 hK
  rw [envOf_updA] at this
  exact ⟨v,s',h1,this⟩
 | .ck d op t,e,s,k,K,h,hK=>by
  obtain ⟨⟨v,s'⟩,h1,h2⟩:=sat_elim h.1
  simp only at h2
  subst h2
  exact ⟨⟨s',h1⟩,tops_topsE hkp t _ _ k K h.2 hK⟩
 | .br a b,e,s,k,K,h,hK=>⟨tops_topsE hkp a _ _ k K h.1 hK,tops_topsE hkp b _ _ k K h.2 hK⟩
 | .call d f args t,e,s,k,K,h,hK=>by
  obtain ⟨fid,vs,h1,h2,⟨v,s',h3,h4⟩ | ⟨v,s',h3,h4⟩⟩:=h
  ·have := tops_topsE hkp t _ _ k K h4 hK
   rw [envOf_updA] at this
   exact ⟨fid,vs,h1,h2,.inl ⟨v,s',h3,this⟩⟩
  ·exact ⟨fid,vs,h1,h2,.inr ⟨v,s',h3,hkp _ _ h4⟩⟩
 | .zop d op t,e,s,k,K,h,hK=>by
  obtain ⟨rows,h1,h2,h3⟩:=sat_elim h
  have:=tops_topsE hkp t _ _ k K h3 hK
  rw [envOf_updA] at this
  exact ⟨_,wfz_zop h1 h2,this⟩
def OpS (P : Program) (N : FrN) (m : Nat) (o : Oper) (e : Env) (s : Store) (kp : Post) (k : Env → Store → Prop) : Prop:=
 ∀ C pub σ a w next Q,(∀ i,m ≤ i → C.sig i = none) → SR C pub σ s w → ER pub σ N e a →
  (∀ e' s' pub' σ' a' w',k e' s' → SR C pub' σ' s' w' → ER pub' σ' N e' a' → next a' w') →
  (∀ x e' s' pub' σ' a' w',kp x e' s' → SR C pub' σ' s' w' → ER pub' σ' N e' a' → Q x a' w') → o.wp P a w next Q
theorem OpS.of {o : Oper} {e : Env} {kp : Post} {k : Env → Store → Prop} {K : PV → Store → Prop} (hd : ∀ d,o.dst = some d → d ∈ N) (h : OpOK P N o e s K) (hk : ∀ v s',K v s' → k (e.upd o.dst v) s') : OpS P N m o e s kp k:=by
 intro C pub σ a w next Q hm hs he hn _
 refine h C pub σ a w next Q hs he fun v s' cv pub' σ' w' hK hs' he' hr=>?_
 exact hn _ _ _ _ _ _ (hk _ _ hK) hs' (he'.put _ hd hr)
theorem OpS.view {o : Oper} {e e1 : Env} {s1 : Store} {kp : Post} {k : Env → Store → Prop} (v : View m e s e1 s1) (h : OpS P N m o e1 s1 kp k) : OpS P N m o e s kp k:=by
 intro C pub σ a w next Q hm hs he hn hp
 obtain ⟨p,t,h1,h2⟩:=v C pub σ a w N hm hs he
 exact h C p t a w next Q hm h1 h2 hn hp
def ngo : Exit → Prop
 | .goto _=>False
 | _=>True
def KE (k : AE → Store → Prop) : Env → Store → Prop:=fun E s=>∃ e,E = envOf e ∧ k e s
def KP (k : KA) : Post:=fun x E s=>ngo x ∧ ∃ e,E = envOf e ∧ k x e s
theorem ops_pan {o : Oper} {e : AE} {kp : KA} {k : Env → Store → Prop} {f : Operand} {args : Array Operand} {Ts : Array TypeId} {fid : FuncId} {xs ys : List PV} {v : Value} {s' : Store} (ho : o.op = .call { callee := .value f,args := args,argTypes := Ts })
  (hf : evO (envOf e) f = .fn (.func fid) xs ys) (hen : Enters P fid) (hc : CallPan P fid (xs ++ args.toList.map (evO (envOf e)) ++ ys) s v s') (h : kp (pan1 v) e s') : OpS P N m o (envOf e) s (KP kp) k:=by
 intro C pub σ a w next Q hm hs he _ hp
 have hr:=evO_rel he f
 rw [hf] at hr
 generalize hv : a.eval f = cv at hr
 cases hr with
 | fn hsx hrx hsy hry=>
  rename_i xa ya
  have hA : RelA pub σ (xs ++ args.toList.map (evO (envOf e)) ++ ys) (xa ++ args.map a.eval ++ ya):=RelA.append (RelA.append ⟨hsx,hrx⟩ (map_rel he args)) ⟨hsy,hry⟩
  have hcall:=hc pub σ w _ hs.toBase hA
  have hrun : (execOp a.eval o).run P w = .ok (.enter fid (xa ++ args.map a.eval ++ ya)) w:=by
   simp only [execOp,ho,Go.resolve,hv,Deferred.ofValue,pure_bind,invoke]
   exact hen _ w
  unfold Oper.wp
  rw [hrun]
  refine Calls.mono hcall ?_
  rintro en w' ⟨pub',σ',rfl,hs'⟩
  exact hp (pan1 v) (envOf e) s' pub' σ' a w' ⟨True.intro,e,rfl,h⟩ (hs.trans hs') (he.mono hs'.ple hs'.sle)
theorem run_mkI {w : World} {T : TypeId} {d : TypeDesc} {c : Value} (hd : P.underlying T = some d) (hn : ∀ ms,d ≠ .interface ms) : (Instr.makeInterface T c).run P w = .ok (.iface T c) w:=by
 unfold Instr.makeInterface
 rw [Sem.run_bind,run_underlying' hd,Result.andThen_ok]
 split
 ·exact absurd rfl (hn _)
 ·rfl
theorem run_asI {w : World} {T A : TypeId} {d : TypeDesc} {ok : Bool} {c : Value} (hd : P.underlying A = some d) (hn : ∀ ms,d ≠ .interface ms) : (Instr.typeAssert (.iface A c) T A ok).run P w = .ok (if ok = true then .tuple #[c,.bool true] else c) w:=by
 unfold Instr.typeAssert
 dsimp only
 rw [Sem.run_bind,run_underlying' hd,Result.andThen_ok]
 split
 ·exact absurd rfl (hn _)
 ·exact absurd rfl (hn _)
 ·rename_i h;cases h
 ·rename_i h;cases h;rw [if_pos rfl];rfl
 ·simp_all
theorem run_asN {w : World} {T A : TypeId} {d : TypeDesc} {c z : Value} (hd : P.underlying A = some d) (hn : ∀ ms,d ≠ .interface ms) (hc : c = .nilIface ∨ ∃ t u,c = .iface t u ∧ t ≠ A) (hz : (zeroValue A).run P w = .ok z w) : (Instr.typeAssert c T A true).run P w = .ok (.tuple #[z,.bool false]) w:=by
 unfold Instr.typeAssert
 dsimp only
 rw [Sem.run_bind,run_underlying' hd,Result.andThen_ok]
 rcases hc with rfl | ⟨t,u,rfl,hta⟩
 ·split
  ·exact absurd rfl (hn _)
  ·exact absurd rfl (hn _)
  ·rw [if_pos rfl,Sem.run_bind,hz,Result.andThen_ok];rfl
  ·rename_i h;cases h
  ·simp_all
 ·split
  ·exact absurd rfl (hn _)
  ·exact absurd rfl (hn _)
  ·rename_i h;cases h
  ·rename_i h;cases h;rw [if_neg hta,if_pos rfl,Sem.run_bind,hz,Result.andThen_ok];rfl
  ·simp_all
theorem ok_iface {o : Oper} {T : TypeId} {x : Operand} {E : Env} {v : PV} {k : PV → Store → Prop} (ho : o.op = .makeInterface T x) (h1 : xiface P T (evO E x) = some v) (h : k v s) : OpOK P N o E s k:=by
 refine .read ?_
 intro C pub σ a w hs he
 have hr:=evO_rel he x
 unfold xiface at h1
 split at h1
 ·cases h1
 ·cases h1
 ·rename_i d hni hd
  cases h1
  exact ⟨_,_,h,.iface hr,by simp [execOp,ho,run_mkI hd hni]⟩
theorem ok_assert {o : Oper} {T A : TypeId} {ok : Bool} {x : Operand} {E : Env} {v : PV} {k : PV → Store → Prop} (ho : o.op = .typeAssert x T A ok) (h1 : xassert P A ok (evO E x) = some v) (h : k v s) : OpOK P N o E s k:=by
 refine .read ?_
 intro C pub σ a w hs he
 have hr:=evO_rel he x
 obtain ⟨cx,hcx⟩ : ∃ cx,a.eval x = cx:=⟨_,rfl⟩
 rw [hcx] at hr
 have fin : ∀ cv,Rel pub σ v cv → (Instr.typeAssert cx T A ok).run P w = .ok cv w → ∃ v cv,k v s ∧ Rel pub σ v cv ∧ (execOp a.eval o).run P w = .ok (.value cv) w:=
  fun cv h2 h3=>⟨v,cv,h,h2,by simp [execOp,ho,hcx,h3]⟩
 have two : ∀ {v : PV} {cv : Value} (b : Bool),Rel pub σ v cv → Rel pub σ (.tuple [v,.bool b]) (.tuple #[cv,.bool b]):=by
  intro v cv b hv
  refine .tuple rfl fun j v' c hv' hc=>?_
  match j,hv',hc with
  | 0,hv',hc=>simp at hv' hc;subst hv' hc;exact hv
  | 1,hv',hc=>simp at hv' hc;subst hv' hc;exact .bool
  | j + 2,hv',hc=>simp at hv'
 unfold xassert at h1
 split at h1
 ·cases h1
 ·cases h1
 ·rename_i d hni hd
  split at h1
  ·rename_i hx
   split at h1
   ·rename_i hok
    obtain ⟨z,hz,rfl⟩:=Option.map_eq_some_iff.1 h1
    obtain ⟨zv,g1,g2⟩:=zv_rel (pub:=pub) (σ:=σ) (w:=w) hz
    rw [hx] at hr
    cases hr
    subst hok
    exact fin _ (two false g2) (run_asN hd hni (.inl rfl) g1)
   ·cases h1
  ·rename_i t u hx
   rw [hx] at hr
   cases hr with
   | iface hr=>
    split at h1
    ·rename_i hta
     cases h1
     subst hta
     refine fin _ ?_ (run_asI hd hni)
     cases ok
     ·exact hr
     ·exact two true hr
    ·rename_i hta
     split at h1
     ·rename_i hok
      obtain ⟨z,hz,rfl⟩:=Option.map_eq_some_iff.1 h1
      obtain ⟨zv,g1,g2⟩:=zv_rel (pub:=pub) (σ:=σ) (w:=w) hz
      subst hok
      exact fin _ (two false g2) (run_asN hd hni (.inr ⟨_,_,rfl,hta⟩) g1)
     ·cases h1
  ·cases h1
theorem ok_e0 {o : Oper} {T T' : TypeId} {x y : Operand} {E : Env} {ti : TI} (ho : o.op = .binOp .eql T x y T') (h0 : isE0 (evO E x) (evO E y) = true) (ht : tinfo P T = some ti) (hk : isSlk ti.kind = true) : OpOK P N o E s (fun v s'=>∃ b,v = .bool b ∧ s' = s):=by
 refine .read ?_
 intro C pub σ a w hs he
 obtain ⟨i,d,h1,h2,rfl⟩:=tinfo_some ht
 have hsl : ∃ e,d = .slice e:=by
  dsimp only at hk
  cases hq : tkOf P d <;> rw [hq] at hk <;> first | (cases hk;done) | skip
  exact ⟨_,(tkOf_slice hq).1⟩
 obtain ⟨el,rfl⟩:=hsl
 have hx:=evO_rel he x
 have hy:=evO_rel he y
 unfold isE0 at h0
 split at h0
 ·rename_i hex hey
  rw [hex] at hx;rw [hey] at hy
  obtain ⟨cx,hcx⟩ : ∃ cx,a.eval x = cx:=⟨_,rfl⟩
  obtain ⟨cy,hcy⟩ : ∃ cy,a.eval y = cy:=⟨_,rfl⟩
  rw [hcx] at hx;rw [hcy] at hy
  cases hy
  obtain ⟨ad,n,cap,rfl⟩ : ∃ ad n cap,cx = .slice ad n cap:=by
   cases hx <;> exact ⟨_,_,_,rfl⟩
  have hg : (eqGuard .eql T x y (.slice ad n cap) (.slice none 0 0)).run P w = .ok () w:=by
   unfold eqGuard;split <;> rfl
  refine ⟨.bool ad.isNone,.bool ad.isNone,⟨_,rfl,rfl⟩,.bool,?_⟩
  cases ad with
  | none=>simp [execOp,ho,hcx,hcy,hg,binOp_eql_sl,run_equal_nil h2]
  | some ad=>simp [execOp,ho,hcx,hcy,hg,binOp_eql_sl,run_equal_nil' h2]
 ·cases h0
theorem run_equal_in {w : World} {T : TypeId} {ms} (h : P.underlying T = some (.interface ms)) : (Op.equal T .nilIface .nilIface).run P w = .ok true w:=by
 rw [equal_succ,Op.equalIn];simp [run_underlying' h]
theorem run_equal_in' {w : World} {T t : TypeId} {ms} {c : Value} (h : P.underlying T = some (.interface ms)) : (Op.equal T (.iface t c) .nilIface).run P w = .ok false w:=by
 rw [equal_succ,Op.equalIn];simp [run_underlying' h]
theorem binOp_eql_in (T : TypeId) : binOp .eql T .nilIface .nilIface = (do pure (.bool (← Op.equal T .nilIface .nilIface)) : Sem Value):=rfl
theorem binOp_eql_in' (T t : TypeId) (c : Value) : binOp .eql T (.iface t c) .nilIface = (do pure (.bool (← Op.equal T (.iface t c) .nilIface)) : Sem Value):=rfl
theorem ok_nilI {o : Oper} {T T' : TypeId} {x : Operand} {E : Env} {v : PV} {k : PV → Store → Prop} (ho : o.op = .binOp .eql T x (.const .nilIface) T') (h1 : xnilI P T (evO E x) = some v) (h : k v s) : OpOK P N o E s k:=by
 refine .read ?_
 intro C pub σ a w hs he
 have hr:=evO_rel he x
 unfold xnilI at h1
 split at h1
 ·rename_i ms hms
  obtain ⟨cx,hcx⟩ : ∃ cx,a.eval x = cx:=⟨_,rfl⟩
  rw [hcx] at hr
  have hy : a.eval (.const .nilIface) = .nilIface:=rfl
  split at h1
  ·rename_i hx
   rw [hx] at hr
   cases hr
   cases h1
   have hg : (eqGuard .eql T x (.const .nilIface) .nilIface .nilIface).run P w = .ok () w:=by
    unfold eqGuard;simp
   exact ⟨_,.bool true,h,.bool,by simp [execOp,ho,hcx,hy,hg,binOp_eql_in,run_equal_in hms]⟩
  ·rename_i t u hx
   rw [hx] at hr
   cases hr
   cases h1
   rename_i c _
   have hg : (eqGuard .eql T x (.const .nilIface) (.iface t c) .nilIface).run P w = .ok () w:=by
    unfold eqGuard;simp
   exact ⟨_,.bool false,h,.bool,by simp [execOp,ho,hcx,hy,hg,binOp_eql_in',run_equal_in' hms]⟩
  ·cases h1
 ·cases h1
theorem wop1_ops {o : Oper} {d : Option Tmp} {op : Op} {e : AE} {kp : KA} {k : AE → Store → Prop} (ho : o.op = op) (hod : o.dst = d) (hd : ∀ t,d = some t → t ∈ N) (h : wop1 P m d op e s kp k) : OpS P N m o (envOf e) s (KP kp) (KE k):=by
 subst hod
 have sat : ∀ {e1 : AE} {s1 : Store},(Sat (xop P op (envOf e1) s1) fun p=>k (updA e1 o.dst p.1) p.2) → OpS P N m o (envOf e1) s1 (KP kp) (KE k):=by
  intro e1 s1 h
  obtain ⟨⟨v,s'⟩,h1,h2⟩:=sat_elim h
  refine OpS.of (K:=fun v s'=>k (updA e1 o.dst v) s') hd (wop_ok (by rw [ho];exact wop_of h1 h2)) fun v s' h3=>⟨_,(envOf_updA e1 o.dst v).symm,h3⟩
 unfold wop1 at h
 split at h
 ·rename_i f args Ts
  obtain ⟨e1,s1,fid,vs,h1,h2,h3,h⟩:=h rfl
  obtain ⟨xs,ys,h6,rfl⟩:=fnArgs_some h2
  rcases h with ⟨v,s2,h4,h5⟩ | ⟨v,s2,h4,h5⟩
  ·exact OpS.view h1 (OpS.of (K:=fun v s'=>k (updA e1 o.dst v) s') hd (ok_call ho h6 h3 h4 h5) fun v s' h3=>⟨_,(envOf_updA e1 o.dst v).symm,h3⟩)
  ·exact OpS.view h1 (ops_pan ho h6 h3 h4 h5)
 ·rename_i args Ts
  split at h
  ·rename_i x T hx hT
   ·obtain ⟨ti,h1,h⟩ := sat_elim h
    obtain ⟨n,h2,h⟩:=sat_elim h
    obtain ⟨h3,h4⟩:=xlen_some h2
    refine OpS.of (K:=fun v s'=>k (updA e o.dst v) s') hd (wop_ok ?_) fun v s' h3=>⟨_,(envOf_updA e o.dst v).symm,h3⟩
    rw [ho]
    simp only [WOp,WCall,hx,hT,List.map_cons,List.map_nil]
    exact ⟨ti,n,h1,h3,h4,h⟩
  ·exact h.elim
 ·rename_i T len parts
  unfold FrzW at h
  split at h
  ·exact sat h
  ·exact OpS.view (withFrz_view _ e) (sat h)
 ·obtain ⟨v,h1,h2⟩ := sat_elim h
  exact OpS.of (K:=fun v s'=>k (updA e o.dst v) s') hd (ok_iface ho h1 h2) fun v s' h3=>⟨_,(envOf_updA e o.dst v).symm,h3⟩
 ·obtain ⟨v,h1,h2⟩ := sat_elim h
  exact OpS.of (K:=fun v s'=>k (updA e o.dst v) s') hd (ok_assert ho h1 h2) fun v s' h3=>⟨_,(envOf_updA e o.dst v).symm,h3⟩
 ·rename_i x
  obtain ⟨v,h1,h2⟩:=sat_elim h
  intro C pub σ a w next Q hm hs he _ hp
  have hr:=evO_rel he x
  have hx : ∃ t c,evO (envOf e) x = .iface t c ∧ concP 4 (.iface t c) = some v:=by
   unfold panP at h1
   split at h1
   ·rename_i t c hx;exact ⟨t,c,hx,h1⟩
   ·cases h1
  obtain ⟨t,c,hx,h3⟩:=hx
  rw [hx] at hr
  have hv:=concP_rel 4 _ _ _ h3 hr
  obtain ⟨u,hu⟩ : ∃ u,a.eval x = .iface t u:=by
   generalize a.eval x = cv at hr
   cases hr with
   | iface _=>exact ⟨_,rfl⟩
  have hrun : (execOp a.eval o).run P w = .halt (.panic v) w:=by
   rw [← hv]
   simp [execOp,ho,hu,Instr.panic,goPanic]
  unfold Oper.wp
  rw [hrun]
  exact hp (pan1 v) (envOf e) s pub σ a w ⟨True.intro,e,rfl,h2⟩ hs he
 ·rename_i T x z
  obtain ⟨v,h1,h2⟩:=sat_elim h
  exact OpS.of (K:=fun v s'=>k (updA e o.dst v) s') hd (ok_nilI ho h1 h2) fun v s' h3=>⟨_,(envOf_updA e o.dst v).symm,h3⟩
 ·rename_i T x y z _
  split at h
  ·rename_i h0
   obtain ⟨ti,h1,h2,h3⟩:=sat_elim h
   refine OpS.of (K:=fun v s'=>∃ b,v = .bool b ∧ s' = s) hd (ok_e0 ho h0 h1 h2) ?_
   rintro v s' ⟨b,rfl,rfl⟩
   exact ⟨_,(envOf_updA e o.dst _).symm,h3 b⟩
  ·exact sat h
 ·exact sat h
theorem wops_ok2 {ops : Array Oper} (k : KA) : ∀ (rest : List Oper) (i : Nat) (e : AE) (s : Store),ops.toList.drop i = rest → (∀ o ∈ rest,∀ d,o.dst = some d → d ∈ N) → wops P m (lopsL (dsts ops.toList) rest) e s k →
  ∀ C pub σ a w Q,(∀ i,m ≤ i → C.sig i = none) → SR C pub σ s w → ER pub σ N (envOf e) a → (∀ x e' s' pub' σ' a' w',ngo x → k x e' s' → SR C pub' σ' s' w' → ER pub' σ' N (envOf e') a' → Q x a' w') → wpOps P ops Q (List.range' i rest.length) a w:=by
 intro rest
 induction rest with
 | nil=>intro i e s _ _ h C pub σ a w Q hm hs he hk;exact hk _ _ _ _ _ _ _ True.intro h hs he
 | cons o rest ih=>
  intro i e s hd hN h C pub σ a w Q hm hs he hk
  have hi : ops[i]? = some o:=by
   rw [← Array.getElem?_toList]
   have:=congrArg (·[0]?) hd
   simpa [List.getElem?_drop] using this
  have hd' : ops.toList.drop (i + 1) = rest:=by
   rw [← List.drop_drop,hd];rfl
  have hN' : ∀ o ∈ rest,∀ d,o.dst = some d → d ∈ N:=fun o ho=>hN o (List.mem_cons_of_mem _ ho)
  have hNo:=hN o List.mem_cons_self
  simp only [List.length_cons,List.range'_succ,wpOps,hi]
  have go : ∀ e1 : AE,envOf e1 = envOf e → wop1 P m o.dst o.op e1 s k (fun e s=>wops P m (lopsL (dsts ops.toList) rest) e s k) → o.wp P a w (wpOps P ops Q (List.range' (i + 1) rest.length)) Q:=by
   intro e1 he1 hw
   refine wop1_ops (N:=N) rfl rfl hNo hw C pub σ a w _ _ hm hs (by rw [he1];exact he) ?_ ?_
   ·rintro E s' pub' σ' a' w' ⟨e2,rfl,hk2⟩ hs' he'
    exact ih (i + 1) _ _ hd' hN' hk2 C pub' σ' _ w' Q hm hs' he' hk
   ·rintro x E s' pub' σ' a' w' ⟨hg,e2,rfl,hk2⟩ hs' he'
    exact hk _ _ _ _ _ _ _ hg hk2 hs' he'
  simp only [lopsL,lop,wops] at h
  cases hg : o.guard with
  | none=>
   simp only [hg] at h
   have : Region.wanted o (yielded ops a.tmps) = true:=by simp [Region.wanted,hg]
   rw [if_pos this]
   exact .inl (go e rfl h)
  | some g=>
   obtain ⟨j,b⟩:=g
   simp only [hg] at h
   cases hn : nth (dsts ops.toList) j with
   | none=>simp only [hn] at h
   | some d=>
    simp only [hn] at h
    obtain ⟨t,ht,h1,h2⟩:=gdW_elim h
    have hdst : (ops[j]?).bind (·.dst) = some d:=by
     rw [nth_eq,dsts_eq,List.getElem?_map,Array.getElem?_toList] at hn
     cases hx : ops[j]? with
     | none=>simp [hx] at hn
     | some oo=>simpa [hx] using hn
    have hyield:=yield_of he hdst ht
    by_cases htb : t = some b
    ·have : Region.wanted o (yielded ops a.tmps) = true := by simp [Region.wanted,hg,hyield,htb]
     rw [if_pos this]
     obtain ⟨hv,h1⟩:=h1 htb
     exact .inl (go _ (envOf_again hv) h1)
    ·have : Region.wanted o (yielded ops a.tmps) = false := by simp [Region.wanted,hg,hyield,htb]
     rw [if_neg (by simp [this])]
     rcases h2 htb with ⟨hv,h2⟩ | ⟨hv,h2⟩
     ·refine ih (i + 1) _ _ hd' hN' h2 C pub σ _ w Q hm hs ?_ hk
      rw [envOf_updA,envOf_again hv]
      exact he.put _ hNo (.tuple rfl fun j v c h=>by simp at h)
     ·refine ih (i + 1) _ _ hd' hN' h2 C pub σ _ w Q hm hs ?_ hk
      rw [envOf_updA]
      exact he.put _ hNo (.tuple rfl fun j v c h=>by simp at h)
theorem wp_loop_lfp {Q : Exit → Act → World → Prop} {a : Act} {w : World} {c : Code} (h : ∀ J : Act → World → Prop,(∀ a w,c.wp P (Exit.then J Q) a w → J a w) → J a w) : (Code.loop c).wp P Q a w:=by
 intro b k cs
 have key:=h (fun a w=>∃ e a' w',Q e a' w' ∧ Arrives P (lone (b.at a (.code c :: .inLoop c :: k)) cs w) b k cs e a' w') ?_
 ·obtain ⟨e,a',w',hq,harr⟩ := key
  exact ⟨e,a',w',hq,.of_steps (.one step_loop) harr⟩
 ·intro a w hc
  obtain ⟨e,a₁,w₁,hq,harr⟩:=hc b (.inLoop c :: k) cs
  cases e with
  | normal=>
   obtain ⟨e₂,a₂,w₂,hq₂,harr₂⟩:=hq
   exact ⟨e₂,a₂,w₂,hq₂,.of_steps (Steps.trans harr (.one step_inLoop)) harr₂⟩
  | exit id=>exact ⟨_,a₁,w₁,hq,.pass (x:=.inLoop c) rfl (fun _ _=>.inl (by simp)) harr⟩
  | goto l=>exact ⟨_,a₁,w₁,hq,.pass (x:=.inLoop c) rfl (fun _ _=>.inl (by simp)) harr⟩
  | ret=>exact ⟨_,a₁,w₁,hq,.pass (x:=.inLoop c) rfl (fun _ _=>.inl (by simp)) harr⟩
  | panic ch=>exact ⟨_,a₁,w₁,hq,.pass (x:=.inLoop c) rfl (fun _ _=>.inl (by simp)) harr⟩
  | outgrown=>exact ⟨_,a₁,w₁,hq,.pass (x:=.inLoop c) rfl (fun _ _=>.inl (by simp)) harr⟩
def lift (m : Nat) (k : KA) : Post:=fun x E s=>ngo x ∧ ∃ e1 s1,View m E s (envOf e1) s1 ∧ k x e1 s1
theorem lift_of {k : KA} {x : Exit} {e : AE} (h : k x e s) (hx : ngo x:=by exact True.intro) : lift m k x (envOf e) s:=⟨hx,e,s,View.refl _ _,h⟩
theorem Ev.loop_lfp {c : Code} {e : Env} {K : Post} (h : ∀ J : Env → Store → Prop,(∀ e s,Ev P N m c e s (fun x e' s' => match x with
   | .normal=>∃ e1 s1,View m e' s' e1 s1 ∧ J e1 s1
   | y=>K y e' s') → J e s) → ∃ e1 s1,View m e s e1 s1 ∧ J e1 s1) : Ev P N m (.loop c) e s K:=by
 intro C pub σ a w hm hs he
 refine wp_loop_lfp fun J hJ=>?_
 have key : ∀ e s,Ev P N m c e s (fun x e' s' => match x with
   | .normal=>∃ e1 s1,View m e' s' e1 s1 ∧ ∀ pub σ a w,SR C pub σ s1 w → ER pub σ N e1 a → J a w
   | y=>K y e' s') → ∀ pub σ a w,SR C pub σ s w → ER pub σ N e a → J a w:=by
  intro e s hev pub σ a w hs he
  refine hJ a w ?_
  refine wp_mono (hev C pub σ a w hm hs he) ?_
  rintro x a' w' ⟨e',s',pub',σ',hK,hs',he'⟩
  cases x with
  | normal=>
   obtain ⟨e1,s1,hv,hj⟩:=hK
   obtain ⟨p,t,h1,h2⟩:=hv C pub' σ' a' w' N hm hs' he'
   exact hj p t a' w' h1 h2
  | exit id=>exact ⟨e',s',pub',σ',hK,hs',he'⟩
  | goto l=>exact ⟨e',s',pub',σ',hK,hs',he'⟩
  | ret=>exact ⟨e',s',pub',σ',hK,hs',he'⟩
  | panic ch=>exact ⟨e',s',pub',σ',hK,hs',he'⟩
  | outgrown=>exact ⟨e',s',pub',σ',hK,hs',he'⟩
 obtain ⟨e1,s1,hv,hj⟩:=h _ key
 obtain ⟨p,t,h1,h2⟩:=hv C pub σ a w N hm hs he
 exact hj p t a w h1 h2
theorem FrN.mem_ok {N : FrN} {d : Nat} (h : N.m.ok d = true) : d ∈ N:=by
 unfold FrM.ok at h
 rw [Bool.and_eq_true,List.all_eq_true] at h
 refine ⟨of_decide_eq_true h.1,fun v hv=>?_⟩
 have:=h.2 d (List.mem_map.2 ⟨_,hv,rfl⟩)
 simp at this
theorem allLt_of {ops : Array Oper} (h : (ops.toList.all fun o=>match o.dst with | some d=>N.m.ok d | none=>true) = true) : ∀ o ∈ ops.toList,∀ d,o.dst = some d → d ∈ N:=by
 intro o ho d hd
 have:=List.all_eq_true.1 h o ho
 simp only [hd] at this
 exact FrN.mem_ok this
theorem allLt_lops {ops : Array Oper} (h : ∀ o ∈ ops.toList,∀ d,o.dst = some d → d ∈ N) : AllLt N (lopsL (dsts ops.toList) ops.toList):=by
 intro o ho d hd
 rw [lopsL_eq,List.mem_map] at ho
 obtain ⟨o',h1,rfl⟩:=ho
 exact h o' h1 d hd
theorem late_get {ops : Array Oper} {n L : Nat} (hc : mixChk3 ops n (some L) = true) (hg : noGuard ops L = true) : ∃ l,(lopsL (dsts ops.toList) ops.toList)[L]? = some l ∧ rlo (some l) = lateO ops (some L) ∧ rlo (some (zmk l)) = lateO ops (some L):=by
 unfold mixChk3 at hc
 simp only [Bool.and_eq_true,decide_eq_true_eq,Option.isSome_iff_exists] at hc
 obtain ⟨d,hd⟩:=hc.2.1.2.2
 obtain ⟨o,h1,h2⟩:=Option.bind_eq_some_iff.1 hd
 have hgo : o.guard = none:=by unfold noGuard at hg;rw [h1] at hg;simpa using hg
 refine ⟨lop (dsts ops.toList) o,?_,?_,?_⟩
 ·rw [lopsL_eq];simp [h1]
 ·simp [rlo,lateO,h1,lop,h2,unz,hgo]
 ·simp [rlo,lateO,h1,lop,h2,unz,hgo,zmk]
theorem wexec_ok (hmix : P.follows .mixedOrders = true) {A : Ann} : ∀ (c : Code) (e : AE) (s : Store) (k : KA),chkC N.m A c = true → wexec P m A (lt c) e s k → Ev P N m c (envOf e) s (lift m k)
 | .skip,e,s,k,_,h=>Ev.skip (lift_of h)
 | .ret,e,s,k,_,h=>Ev.ret (lift_of h)
 | .exit i,e,s,k,_,h=>Ev.exit (lift_of h)
 | .rangeFunc ..,e,s,k,_,h=>h.elim
 | .loop _,e,s,k,_,h=>h.elim
 | .scope c,e,s,k,hc,h=>by
  have ih:=wexec_ok hmix (A:=A) c e s k hc h
  intro C pub σ a w hm hs he
  refine wp_scope_straight (wp_mono (ih C pub σ a w hm hs he) ?_)
  rintro x a' w' ⟨e',s',pub',σ',hK,r⟩
  cases x with
  | goto l=>exact hK.1.elim
  | normal=>exact ⟨e',s',pub',σ',hK,r⟩
  | exit id=>exact ⟨e',s',pub',σ',hK,r⟩
  | ret=>exact ⟨e',s',pub',σ',hK,r⟩
  | panic ch=>exact ⟨e',s',pub',σ',hK,r⟩
  | outgrown=>exact ⟨e',s',pub',σ',hK,r⟩
 | .label _,e,s,k,_,h=>Ev.label (lift_of h)
 | .goto _,e,s,k,_,h=>h.elim
 | .refuse _,e,s,k,_,h=>h.elim
 | .region id ops false,e,s,k,hc,h=>by
  simp only [chkC,Bool.not_false,Bool.true_or,Bool.and_true] at hc
  intro C pub σ a w hm hs he
  refine wp_region ?_
  rw [List.range_eq_range']
  have:=wops_ok2 (P:=P) (N:=N) (m:=m) (ops:=ops) _ ops.toList 0 e s rfl (allLt_of hc) h C pub σ a w (fun x a' w'=>∃ e' s' pub' σ',lift m k x e' s' ∧ SR C pub' σ' s' w' ∧ ER pub' σ' N e' a') hm hs he
   (fun x e' s' pub' σ' a' w' hg hk hs' he'=>⟨_,s',pub',σ',lift_of hk hg,hs',he'⟩)
  simpa using this
 | .region id ops true,e,s,k,hc,h=>by
  simp only [chkC,Bool.not_true,Bool.false_or,Bool.and_eq_true] at hc
  obtain ⟨hc1,hc2⟩:=hc
  have hN:=allLt_lops (allLt_of hc1)
  simp only [lt,wexec] at h
  have run : ∀ (e : AE) (s : Store),(match A.clsOf id with
    | .draw=>dops P (lopsL (dsts ops.toList) ops.toList) e s (k .normal)
    | .mix n=>mops P none n (lopsL (dsts ops.toList) ops.toList) e s [] (k .normal)
    | .mixz n=>mops P (some markZ) n (lopsL (dsts ops.toList) ops.toList) e s [] (k .normal)
    | .mix3 n L=>mops P (lopsL (dsts ops.toList) ops.toList)[L]? n (lopsL (dsts ops.toList) ops.toList) e s [] (k .normal)
    | .mixz3 n L=>mops P ((lopsL (dsts ops.toList) ops.toList)[L]?.map zmk) n (lopsL (dsts ops.toList) ops.toList) e s [] (k .normal)
    | .tree t=>tops P (resolve false (lopsL (dsts ops.toList) ops.toList) t) e s k (k .normal)
    | .treez t=>tops P (resolve true (lopsL (dsts ops.toList) ops.toList) t) e s k (k .normal)) → Ev P N m (.region id ops true) (envOf e) s (lift m k):=by
   intro e s h
   have run : EvL P N m (.drawn ops) (envOf e) s (lift m k):=by
    split at h
    ·rename_i hcl
     rw [hcl] at hc2
     exact EvL.drawn _ hmix hc2 (dops_wops _ e s _ _ hN h fun e s hk=>lift_of hk)
    ·rename_i n hcl
     rw [hcl] at hc2
     exact EvL.mixk3 n none hmix hc2 fun K hK=>mops_wmix (lo:=none) (fun l hl=>by cases hl) _ _ e _ _ _ hN h fun e s hk=>hK _ _ (lift_of hk)
    ·rename_i n hcl
     rw [hcl] at hc2
     exact EvL.mixk3 n none hmix hc2 fun K hK=>mops_wmix (lo:=some markZ) (fun l hl d hd=>by cases hl;cases hd) _ _ e _ _ _ hN h fun e s hk=>hK _ _ (lift_of hk)
    ·rename_i n L hcl
     rw [hcl] at hc2
     simp only [Bool.and_eq_true] at hc2
     obtain ⟨hc2,hg⟩:=hc2
     obtain ⟨l,hlo,hld,hlg⟩:=late_get hc2 hg
     rw [hlo] at h
     refine EvL.mixk3 n (some L) hmix hc2 fun K hK=>?_
     have hm:=mops_wmix (lo:=some l) (fun l' hl=>by cases hl;exact hN l (List.mem_of_getElem? hlo)) _ _ e _ _ K hN h fun e s hk=>hK _ _ (lift_of hk)
     rw [hld] at hm
     exact hm
    ·rename_i n L hcl
     rw [hcl] at hc2
     simp only [Bool.and_eq_true] at hc2
     obtain ⟨hc2,hg⟩:=hc2
     obtain ⟨l,hlo,hld,hlg⟩:=late_get hc2 hg
     rw [hlo] at h
     refine EvL.mixk3 n (some L) hmix hc2 fun K hK=>?_
     have hm:=mops_wmix (lo:=some (zmk l)) (fun l' hl=>by cases hl;exact hN l (List.mem_of_getElem? hlo)) _ _ e _ _ K hN h fun e s hk=>hK _ _ (lift_of hk)
     rw [hlg] at hm
     exact hm
    ·rename_i t hcl
     rw [hcl] at hc2
     exact EvL.tree t hmix hc2 (allLt_of hc1) (tops_topsE (fun v s hk=>lift_of hk) _ _ _ _ _ h fun e s hk=>lift_of hk)
    ·rename_i t hcl
     rw [hcl] at hc2
     exact EvL.tree t hmix hc2 (allLt_of hc1) (tops_topsE (fun v s hk=>lift_of hk) _ _ _ _ _ h fun e s hk=>lift_of hk)
   exact run _ rfl
  obtain ⟨e0,s0,hv0,h⟩:=RshW_view (m:=m) _ e s _ h
  refine Ev.view hv0 ?_
  unfold FrzW at h
  split at h
  ·exact run e0 s0 h
  ·exact Ev.view (withFrz_view _ e0) (run _ _ h)
 | .seq a b,e,s,k,hc,h=>by
  simp only [chkC,Bool.and_eq_true] at hc
  refine Ev.seq ((wexec_ok hmix a e s _ hc.1 h).mono ?_)
  rintro x E s1 ⟨hg,e1,s2,hv,hk⟩
  cases x with
  | normal=>exact Ev.view hv (wexec_ok hmix b e1 s2 k hc.2 hk)
  | exit id=>exact ⟨hg,e1,s2,hv,hk⟩
  | goto l=>exact ⟨hg,e1,s2,hv,hk⟩
  | ret=>exact ⟨hg,e1,s2,hv,hk⟩
  | panic ch=>exact ⟨hg,e1,s2,hv,hk⟩
  | outgrown=>exact ⟨hg,e1,s2,hv,hk⟩
 | .cond c a b,e,s,k,hc,h=>by
  simp only [chkC,Bool.and_eq_true] at hc
  simp only [lt,wexec] at h
  obtain ⟨t,ht,h⟩:=boolW_elim h
  ·replace h := ifW_elim h
   refine Ev.cond ht ?_
   have hE : envOf (condE e c t) = envOf e:=by
    cases c <;> first | rfl | exact envOf_again ht
   rw [← hE]
   cases t
   ·exact wexec_ok hmix b _ s k hc.2 (h.2 rfl)
   ·exact wexec_ok hmix a _ s k hc.1 (h.1 rfl)
 | .block i (.loop c),e,s,k,hc,h=>by
  have ih:=wexec_ok hmix (A:=A) c
  refine Ev.block (Ev.loop_lfp fun J hJ=>?_)
  have hw:=h (fun e s=>J (envOf e) s) (fun e s hb=>hJ _ _ ((ih e s _ hc hb).mono ?_))
  ·obtain ⟨e1,s1,h1,h2⟩ := withGc_view hw
   exact ⟨_,s1,h1,h2⟩
  ·rintro x E s1 ⟨hg,e1,s2,hv,hk⟩
   have out : ∀ y,ngo y → withGc m [] (tabsX (A.loopOf i).2.2 (tabsOf (A.loopOf i).1)) (A.loopOf i).2.2 e1 s2 (blockA i k y) → lift m (blockA i k) y E s1:=by
    intro y hg h
    obtain ⟨e3,s3,h3,h4⟩:=withGc_view h
    exact ⟨hg,e3,s3,hv.trans h3,h4⟩
   have put : ∀ y,lift m (blockA i k) y E s1 → blockK i (lift m k) y E s1:=by
    rintro y ⟨hg,e3,s3,h3,h4⟩
    cases y with
    | exit j=>
     simp only [blockA] at h4
     simp only [blockK]
     split
     ·rename_i hj;rw [if_pos hj] at h4;exact ⟨hg,e3,s3,h3,h4⟩
     ·rename_i hj;rw [if_neg hj] at h4;exact ⟨hg,e3,s3,h3,h4⟩
    | normal=>exact ⟨hg,e3,s3,h3,h4⟩
    | goto l=>exact ⟨hg,e3,s3,h3,h4⟩
    | ret=>exact ⟨hg,e3,s3,h3,h4⟩
    | panic ch=>exact ⟨hg,e3,s3,h3,h4⟩
    | outgrown=>exact ⟨hg,e3,s3,h3,h4⟩
   cases x with
   | normal=>
    obtain ⟨e3,s3,h3,h4⟩:=withGc_view hk
    exact ⟨_,s3,hv.trans h3,h4⟩
   | exit id=>exact put _ (out _ hg hk)
   | goto l=>exact hg.elim
   | ret=>exact put _ (out _ hg hk)
   | panic ch=>exact put _ (out _ hg hk)
   | outgrown=>exact put _ (out _ hg hk)
 | .block i .skip,e,s,k,hc,h=>blk hmix i .skip e s k (fun e s k h=>Ev.skip (lift_of h)) h
 | .block i .ret,e,s,k,hc,h=>blk hmix i .ret e s k (fun e s k h=>Ev.ret (lift_of h)) h
 | .block i (.exit j),e,s,k,hc,h=>blk hmix i (.exit j) e s k (fun e s k h=>Ev.exit (lift_of h)) h
 | .block i (.region id ops draw),e,s,k,hc,h=>blk hmix i _ e s k (fun e s k h=>wexec_ok hmix (.region id ops draw) e s k hc h) h
 | .block i (.seq a b),e,s,k,hc,h=>blk hmix i _ e s k (fun e s k h=>wexec_ok hmix (.seq a b) e s k hc h) h
 | .block i (.cond c a b),e,s,k,hc,h=>blk hmix i _ e s k (fun e s k h=>wexec_ok hmix (.cond c a b) e s k hc h) h
 | .block i (.block j c),e,s,k,hc,h=>blk hmix i _ e s k (fun e s k h=>wexec_ok hmix (.block j c) e s k hc h) h
 | .block i (.rangeFunc ..),e,s,k,hc,h=>h.elim
 | .block i (.scope c),e,s,k,hc,h=>blk hmix i _ e s k (fun e s k h=>wexec_ok hmix (.scope c) e s k hc h) h
 | .block i (.label l),e,s,k,hc,h=>blk hmix i (.label l) e s k (fun e s k h=>Ev.label (lift_of h)) h
 | .block i (.goto _),e,s,k,hc,h=>h.elim
 | .block i (.refuse _),e,s,k,hc,h=>h.elim
where
 blk (hmix : P.follows .mixedOrders = true) (i : Nat) (c : Code) (e : AE) (s : Store) (k : KA) (ih : ∀ e s k,wexec P m A (lt c) e s k → Ev P N m c (envOf e) s (lift m k)) (h : wexec P m A (lt c) e s (blockA i k)) : Ev P N m (.block i c) (envOf e) s (lift m k):=by
  refine Ev.block ((ih e s _ h).mono ?_)
  rintro y E s1 ⟨hg,e3,s3,h3,h4⟩
  cases y with
  | exit j=>
   simp only [blockA] at h4
   simp only [blockK]
   split
   ·rename_i hj;rw [if_pos hj] at h4;exact ⟨hg,e3,s3,h3,h4⟩
   ·rename_i hj;rw [if_neg hj] at h4;exact ⟨hg,e3,s3,h3,h4⟩
  | normal=>exact ⟨hg,e3,s3,h3,h4⟩
  | goto l=>exact ⟨hg,e3,s3,h3,h4⟩
  | ret=>exact ⟨hg,e3,s3,h3,h4⟩
  | panic ch=>exact ⟨hg,e3,s3,h3,h4⟩
  | outgrown=>exact ⟨hg,e3,s3,h3,h4⟩
end
end Go.Pv
