import Derived.Test.YtbimioonhfhflaaDPvTree
set_option linter.unusedVariables false
set_option linter.unusedSimpArgs false
namespace Go.Pv
open Go
abbrev AE:=List (Nat × PV)
def updA (e : AE) (d : Option Tmp) (v : PV) : AE:=match d with
 | none=>e
 | some d=>(d,v) :: e
theorem envOf_updA (e : AE) (d : Option Tmp) (v : PV) : envOf (updA e d v) = (envOf e).upd d v:=by
 cases d <;> rfl
def keysOf : AE → List Nat → List Nat
 | [],acc=>acc
 | (t,_) :: r,acc=>keysOf r (if t ∈ acc then acc else t :: acc)
theorem keysOf_mem (l : AE) : ∀ (acc : List Nat) (t : Nat), t ∈ acc ∨ (∃ p ∈ l, p.1 = t) → t ∈ keysOf l acc:=by
  induction l with
  | nil=>intro acc t h;rcases h with h | ⟨p, hp, _⟩;exact h;cases hp
  | cons p r ih=>
    intro acc t h
    obtain ⟨u, v⟩:=p
    refine ih _ t ?_
    rcases h with h | ⟨p, hp, rfl⟩
    · left; split
      · exact h
      · exact List.mem_cons_of_mem _ h
    · cases hp with
      | head => left; split
                · assumption
                · exact List.mem_cons_self
      | tail _ hp=>exact .inr ⟨p, hp, rfl⟩
theorem envOf_absent {l : AE} {t : Nat} (h : ¬ ∃ p ∈ l,p.1 = t) : envOf l t = .any:=by
 induction l with
 | nil=>rfl
 | cons p r ih=>
  obtain ⟨u,v⟩:=p
  unfold envOf
  rw [if_neg (fun e=>h ⟨(u,v),List.mem_cons_self,e.symm⟩)]
  exact ih fun ⟨p,hp,e⟩=>h ⟨p,List.mem_cons_of_mem _ hp,e⟩
theorem envOf_map_keys (ks : List Nat) (f : Nat → PV) (t : Nat) : envOf (ks.map fun t=>(t,f t)) t = if t ∈ ks then f t else .any:=by
 induction ks with
 | nil=>rfl
 | cons k r ih=>
  simp only [List.map_cons,envOf,List.mem_cons]
  by_cases e : t = k
  ·subst e;simp
  ·rw [if_neg e,ih];simp [e]
def normA (l : AE) : AE:=(keysOf l []).map fun t=>(t,envOf l t)
theorem envOf_norm (l : AE) : envOf (normA l) = envOf l:=by
 funext t
 unfold normA
 rw [envOf_map_keys]
 split
 ·rfl
 ·rename_i h
  exact (envOf_absent fun ⟨p,hp,e⟩=>h (keysOf_mem l [] t (.inr ⟨p,hp,e⟩))).symm
theorem View.cast {m : Nat} {e : Env} {s s' : Store} {l : AE} (h : ViewL m e s (normA l) s') : View m e s (envOf l) s':=by
 unfold ViewL at h;rwa [envOf_norm] at h
theorem normA_mem {l : AE} {p : Nat × PV} (h : p ∈ normA l) : p.2 = envOf l p.1:=by
 unfold normA at h
 rw [List.mem_map] at h
 obtain ⟨t,_,rfl⟩:=h;rfl
theorem View.give' {m : Nat} {e : Env} {s : Store} (F : List Nat) (n : Nat) (l : AE) (s2 : Store) (hl : s2.length = s.length)
  (ho : ∀ (k : Nat) (o2 : PObj),s2[k]? = some o2 → o2 ≠ .dead → k ∉ F ∧ ∃ o,s[k]? = some o ∧ FrzObj (only F 0 s) n o o2) (he : ∀ t,FrzC (only F 0 s) n (e t) (envOf l t)) : View m e s (envOf l) s2:=
 View.cast (View.give F n (normA l) s2 hl ho fun p hp=>by rw [normA_mem hp];exact he p.1)
def refsN : Nat → PV → List (Nat × Bool)
 | 0,_=>[]
 | _ + 1,.sl i _ _=>[(i,false)]
 | _ + 1,.ptr i _ _=>[(i,true)]
 | _ + 1,.mapv i=>[(i,true)]
 | n + 1,.agg cs=>cs.flatMap (refsN n)
 | n + 1,.tuple cs=>cs.flatMap (refsN n)
 | n + 1,.fn _ xs ys=>xs.flatMap (refsN n) ++ ys.flatMap (refsN n)
 | n + 1,.iface _ v=>refsN n v
 | _ + 1,_=>[]
def posn (i : Nat) : List Nat → Nat → Option Nat
 | [],_=>none
 | j :: r,k=>if j = i then some k else posn i r (k + 1)
theorem posn_some {i : Nat} : ∀ {ρ : List Nat} {k n : Nat},posn i ρ k = some n → ∃ j,n = k + j ∧ ρ[j]? = some i
 | [],_,_,h=>by cases h
 | j :: r,k,n,h=>by
  unfold posn at h
  split at h
  ·rename_i e;cases h;exact ⟨0,rfl,by simp [e]⟩
  ·obtain ⟨j',h1,h2⟩ := posn_some h
   exact ⟨j' + 1,by omega,by simpa using h2⟩
def ren0 (ρ : List Nat) : PV → PV
 | .sl i off len=>match posn i ρ 0 with
  | some j=>.sl j off len
  | none=>.any
 | .ptr i r off=>match posn i ρ 0 with
  | some j=>.ptr j r off
  | none=>.any
 | .mapv i=>match posn i ρ 0 with
  | some j=>.mapv j
  | none=>.any
 | .agg _=>.any
 | .tuple _=>.any
 | .fn _ _ _=>.any
 | .iface _ _=>.any
 | v=>v
def renN (ρ : List Nat) : Nat → PV → PV
 | 0,v=>ren0 ρ v
 | n + 1,.agg cs=>.agg (cs.map (renN ρ n))
 | n + 1,.tuple cs=>.tuple (cs.map (renN ρ n))
 | n + 1,.fn f xs ys=>.fn f (xs.map (renN ρ n)) (ys.map (renN ρ n))
 | n + 1,.iface t v=>.iface t (renN ρ n v)
 | n + 1,v=>ren0 ρ v
theorem ren0_ren (ρ : List Nat) (v : PV) : Ren ρ (ren0 ρ v) v:=by
 cases v <;> try (simp only [ren0];constructor;done)
 ·simp only [ren0]; split
  ·rename_i h;obtain ⟨j,rfl,h2⟩:=posn_some h;exact .sl (by simpa using h2)
  ·exact .any
 ·simp only [ren0]; split
  ·rename_i h;obtain ⟨j,rfl,h2⟩:=posn_some h;exact .ptr (by simpa using h2)
  ·exact .any
 ·simp only [ren0]; split
  ·rename_i h;obtain ⟨j,rfl,h2⟩:=posn_some h;exact .mapv (by simpa using h2)
  ·exact .any
theorem renN_ren (ρ : List Nat) : ∀ (n : Nat) (v : PV),Ren ρ (renN ρ n v) v
 | 0,v=>ren0_ren ρ v
 | n + 1,v=>by
  have key : ∀ (xs : List PV) (k : Nat) (x y : PV),(xs.map (renN ρ n))[k]? = some x → xs[k]? = some y → Ren ρ x y:=by
   intro xs k x y hx hy
   rw [List.getElem?_map,hy] at hx
   cases hx;exact renN_ren ρ n y
  cases v <;> simp only [renN] <;> first | exact ren0_ren ρ _ | skip
  ·exact .agg (by simp) (key _)
  ·exact .tuple (by simp) (key _)
  ·exact .fn (by simp) (key _) (by simp) (key _)
  ·exact .iface (renN_ren ρ n _)
def renObj (ρ : List Nat) : PObj → PObj
 | .rows z rs=>.rows z (rs.map (List.map (renN ρ 4)))
 | .map es=>.map (es.map fun p=>(renN ρ 4 p.1,renN ρ 4 p.2))
 | o=>o
theorem renObj_ren (ρ : List Nat) (o : PObj) : RenObj ρ (renObj ρ o) o:=by
 cases o with
 | dead=>exact .dead
 | iter=>exact .iter
 | map es=>
  refine .map (by simp) fun j p p' h h'=>?_
  rw [List.getElem?_map,h'] at h
  cases h
  exact ⟨renN_ren ρ 4 _,renN_ren ρ 4 _⟩
 | rows z rs=>
  refine .rows (by simp) fun r row row' h h'=>?_
  rw [List.getElem?_map,h'] at h
  cases h
  refine ⟨by simp,fun k x y hx hy=>?_⟩
  rw [List.getElem?_map,hy] at hx
  cases hx;exact renN_ren ρ 4 y
def growObj : Option PObj → List (Nat × Bool)
 | some (.rows _ (row :: _))=>row.flatMap (refsN 4)
 | some (.map es)=>es.flatMap fun p=>refsN 4 p.2
 | _=>[]
def grow (s : Store) : Nat → List (Nat × Bool) → List Nat → List Nat
 | 0,_,acc=>acc
 | n + 1,[],acc=>acc
 | n + 1,(i,p) :: r,acc=>
  if i ∈ acc then grow s n r acc else
  if i < s.length then
   (if p = true then grow s n (r ++ growObj s[i]?) (acc ++ [i]) else grow s n r (acc ++ [i]))
  else grow s n r acc
theorem grow_inv (s : Store) : ∀ (n : Nat) (todo : List (Nat × Bool)) (acc : List Nat),acc.Nodup → (∀ i ∈ acc,i < s.length) →
  (grow s n todo acc).Nodup ∧ (∀ i ∈ grow s n todo acc,i < s.length) ∧ acc <+: grow s n todo acc
 | 0,_,acc,h1,h2=>⟨h1,h2,List.prefix_rfl⟩
 | n + 1,[],acc,h1,h2=>⟨h1,h2,List.prefix_rfl⟩
 | n + 1,(i,p) :: r,acc,h1,h2=>by
  unfold grow
  have step : i ∉ acc → i < s.length → ∀ todo,(grow s n todo (acc ++ [i])).Nodup ∧ (∀ j ∈ grow s n todo (acc ++ [i]),j < s.length) ∧ acc <+: grow s n todo (acc ++ [i]):=by
   intro hi hl todo
   obtain ⟨g1,g2,g3⟩:=grow_inv s n todo (acc ++ [i]) (by
    rw [List.nodup_append];exact ⟨h1,by simp,fun a ha b hb=>by simp at hb;subst hb;rintro rfl;exact hi ha⟩) (fun j hj=>by
    rw [List.mem_append] at hj;rcases hj with hj | hj
    ·exact h2 j hj
    ·simp at hj;subst hj;exact hl)
   exact ⟨g1,g2,(List.prefix_append _ _).trans g3⟩
  split
  ·exact grow_inv s n r acc h1 h2
  ·split
   ·split
    ·exact step (by assumption) (by assumption) _
    ·exact step (by assumption) (by assumption) _
   ·exact grow_inv s n r acc h1 h2
theorem grow_len (s : Store) (m : Nat) (hm : m ≤ s.length) (todo : List (Nat × Bool)) (n : Nat) : (grow s n todo (List.range m)).Nodup ∧ (∀ i ∈ grow s n todo (List.range m),i < s.length) ∧ List.range m <+: grow s n todo (List.range m):=
 grow_inv s n todo (List.range m) List.nodup_range fun i hi=>by simp at hi;omega
def tabCell (s : Store) : Nat → PV → PV
 | 0,v=>v
 | c + 1,.ptr i 0 0=>match s[i]? with
  | some (.rows _ [row])=>(row[c]?).getD .any
  | _=>.any
 | _ + 1,_=>.any
def tabIx : PV → Option Nat
 | .sl k _ _=>some k
 | _=>none
def rowsAt (s : Store) (k : Nat) : List (List PV):=match s[k]? with
 | some (.rows _ rows)=>rows
 | _=>[]
def tabRefs (rows : List (List PV)) : List (Nat × Bool):=rows.flatMap fun row=>row.flatMap (refsN 4)
def growT1 (s : Store) (acc : List Nat) : Option Nat → List Nat
 | some k=>grow s (tabRefs (rowsAt s k)).length (tabRefs (rowsAt s k)) acc
 | none=>acc
def growT (s : Store) (e : AE) : List (Nat × Nat × Nat) → List Nat → List Nat
 | [],acc=>acc
 | (t,c,_) :: T,acc=>growT s e T (growT1 s acc (tabIx (tabCell s c (envOf e t))))
def voidAt (z k r : Nat) (s : Store) : Store:=match s[k]? with
 | some (.rows z' rows)=>match rows[r]? with
  | some (.nilsl :: row)=>s.set k (.rows z' (rows.set r (.sl s.length 0 0 :: row))) ++ [.rows z []]
  | _=>s
 | _=>s
def voidT (z k : Nat) : Nat → Store → Store
 | 0,s=>s
 | r + 1,s=>voidAt z k r (voidT z k r s)
def voidT1 (z : Nat) (s : Store) : Option Nat → Store
 | some k=>voidT z k (rowsAt s k).length s
 | none=>s
def voidTs (e : AE) : List (Nat × Nat × Nat) → Store → Store
 | [],s=>s
 | (t,c,z) :: T,s=>voidTs e T (voidT1 z s (tabIx (tabCell s c (envOf e t))))
theorem growT_inv (s : Store) (e : AE) : ∀ (T : List (Nat × Nat × Nat)) (acc : List Nat),acc.Nodup → (∀ i ∈ acc,i < s.length) →
  (growT s e T acc).Nodup ∧ (∀ i ∈ growT s e T acc,i < s.length) ∧ acc <+: growT s e T acc
 | [],acc,h1,h2=>⟨h1,h2,List.prefix_rfl⟩
 | (t,c,z) :: T,acc,h1,h2=>by
  unfold growT growT1
  split
  ·obtain ⟨g1,g2,g3⟩ := grow_inv s _ (tabRefs (rowsAt s ‹Nat›)) acc h1 h2
   obtain ⟨f1,f2,f3⟩:=growT_inv s e T _ g1 g2
   exact ⟨f1,f2,g3.trans f3⟩
  ·exact growT_inv s e T acc h1 h2
theorem voidAt_view {m z k r : Nat} {e : AE} {s : Store} : View m (envOf e) s (envOf e) (voidAt z k r s):=by
 unfold voidAt
 split
 ·rename_i z' rows hs
  split
  ·rename_i row hr
   have hlt:=lt_of_getElem? hs
   refine View.cast (View.void z (normA e) (s.set k (.rows z' (rows.set r (.sl s.length 0 0 :: row)))) (by simp) ?_ fun p hp=>by rw [normA_mem hp];exact .same)
   intro i o2 ho
   rw [List.getElem?_set] at ho
   split at ho
   ·rename_i hik
    subst hik
    simp only [hlt,if_true,Option.some.injEq] at ho
    subst ho
    refine ⟨_,hs,rfl,by simp,fun j row1 row2 g g2=>?_⟩
    rw [List.getElem?_set] at g2
    split at g2
    ·rename_i hrj
     subst hrj
     rw [hr] at g;cases g
     simp only [lt_of_getElem? hr,if_true,Option.some.injEq] at g2
     subst g2
     refine ⟨by simp,fun c v v2 hc hc2=>?_⟩
     cases c with
     | zero=>simp at hc hc2;subst hc hc2;exact .nil
     | succ c=>
      rw [List.getElem?_cons_succ] at hc hc2
      rw [hc] at hc2;cases hc2;exact .same
    ·rw [g] at g2; cases g2
     refine ⟨rfl,fun c v v2 hc hc2=>?_⟩
     rw [hc] at hc2;cases hc2;exact .same
   ·exact ⟨o2,ho,.same⟩
  ·exact View.refl _ _
 ·exact View.refl _ _
theorem voidT_view {m z k : Nat} {e : AE} {s : Store} : ∀ r,View m (envOf e) s (envOf e) (voidT z k r s)
 | 0=>View.refl _ _
 | r + 1=>View.trans (voidT_view r) voidAt_view
theorem voidTs_view {m : Nat} {e : AE} : ∀ (T : List (Nat × Nat × Nat)) (s : Store),View m (envOf e) s (envOf e) (voidTs e T s)
 | [],s=>View.refl _ _
 | (t,c,z) :: T,s=>by
  unfold voidTs voidT1
  split
  ·exact View.trans (voidT_view _) (voidTs_view T _)
  ·exact voidTs_view T s
def tabsOf : List (Nat × Option Nat × Nat) → List (Nat × Nat × Nat)
 | []=>[]
 | (_,none,_) :: r=>tabsOf r
 | (t,some j,z) :: r=>if 4000 ≤ j ∧ j < 5000 then (t,j - 4000,z) :: tabsOf r else tabsOf r
def tabsX (L : List Nat) : List (Nat × Nat × Nat) → List (Nat × Nat × Nat)
 | []=>[]
 | p :: r=>if p.1 ∈ L then p :: tabsX L r else tabsX L r
def gcStep (ρ L : List Nat) (e : AE) (s : Store) (q : AE → Store → Prop) : Prop:=
 q (L.map fun t=>(t,renN ρ 4 (envOf e t))) (ρ.map fun i=>renObj ρ ((s[i]?).getD .dead))
def VoidW (v : PV) (x y : Prop) : Prop:=match v with
 | .nilsl=>x
 | _=>y
def voidRow0 (s : Store) (j : Nat) : PV → Option (Nat × Nat × List PV)
 | .ptr i 0 0=>match s[i]? with
  | some (.rows z [row])=>match row[j]? with
   | some .nilsl=>some (i,z,row)
   | _=>none
  | _=>none
 | _=>none
def follow (s : Store) : PV → PV
 | .ptr i 0 0=>match s[i]? with
  | some (.rows _ [[w]])=>w
  | _=>.any
 | _=>.any
def voidRow (s : Store) (j : Nat) (v : PV) : Option (Nat × Nat × List PV):=voidRow0 s (j % 1000) (if j < 1000 then v else if j < 4000 then follow s v else .any)
def VoidR (o : Option (Nat × Nat × List PV)) (x : Nat → Nat → List PV → Prop) (y : Prop) : Prop:=match o with
 | some (i,z,row)=>x i z row
 | none=>y
def withFrz (F : List Nat) (e : AE) (s : Store) : AE × Store:=
 (e.map fun p=>(p.1,if (refsN 4 p.2).any (fun r=>decide (r.1 ∈ F)) = true then deref (only F 0 s) 6 p.2 else p.2),s.mapIdx fun i o=>if i ∈ F then .dead else match o with
  | .rows z rs=>.rows z (rs.map (List.map fun v=>if (refsN 4 v).any (fun r=>decide (r.1 ∈ F)) = true then deref (only F 0 s) 6 v else v))
  | .map es=>.map (es.map fun p=>(p.1,if (refsN 4 p.2).any (fun r=>decide (r.1 ∈ F)) = true then deref (only F 0 s) 6 p.2 else p.2))
  | o=>o)
def FrzT (v : PV) (x : Nat → Prop) (y : Prop) : Prop:=match v with
 | .sl k _ _=>x k
 | .mapv k=>x k
 | _=>y
def gvC (j : Nat) : Option Nat:=if 5000 ≤ j then some (j - 5000) else none
def GvW (o : Option Nat) (x : Nat → Prop) (y : Prop) : Prop:=match o with
 | some c=>x c
 | none=>y
def voids : List (Nat × Option Nat × Nat) → AE → Store → (AE → Store → Prop) → Prop
 | [],e,s,q=>q e s
 | (t,none,z) :: r,e,s,q=>VoidW (envOf e t) (voids r ((t,.sl s.length 0 0) :: e) (s ++ [.rows z []]) q) (voids r e s q)
 | (t,some j,z) :: r,e,s,q=>GvW (gvC j) (fun c=>FrzT (tabCell s c (envOf e t)) (fun k=>voids r (withFrz [k] e s).1 (withFrz [k] e s).2 q) (voids r e s q)) (VoidR (voidRow s j (envOf e t)) (fun i z' row=>voids r e (s.set i (.rows z' [row.set (j % 1000) (.sl s.length 0 0)]) ++ [.rows z []]) q) (voids r e s q))
def mrefs (s : Store) : Nat → List (Nat × Bool)
 | 0=>[]
 | m + 1=>mrefs s m ++ growObj s[m]?
def withGc (m : Nat) (V : List (Nat × Option Nat × Nat)) (T : List (Nat × Nat × Nat)) (L : List Nat) (e : AE) (s : Store) (q : AE → Store → Prop) : Prop:=
 voids V e s fun e s=>m ≤ (voidTs e T s).length ∧ gcStep (growT (voidTs e T s) e T (grow (voidTs e T s) 64 (mrefs (voidTs e T s) m ++ L.flatMap fun t=>refsN 4 (envOf e t)) (List.range m))) L e (voidTs e T s) q
section
variable {P : Program} {N : FrN} {m : Nat} {s : Store}
theorem gcStep_view {ρ L : List Nat} {e : AE} {q : AE → Store → Prop} (hnd : ρ.Nodup) (hin : ∀ i ∈ ρ,i < s.length) (hpre : List.range m <+: ρ) (h : gcStep ρ L e s q) : ∃ e1 s1,View m (envOf e) s (envOf e1) s1 ∧ q e1 s1:=by
 refine ⟨_,_,View.norm ρ ?_ hnd (by simp) ?_ _ ?_,h⟩
 ·intro i hi
  obtain ⟨t,rfl⟩:=hpre
  rw [List.getElem?_append_left (by simpa using hi)];simp [hi]
 ·intro i o' hi
  rw [List.getElem?_map,Option.map_eq_some_iff] at hi
  obtain ⟨j,hj,rfl⟩:=hi
  have hjl:=hin j (List.mem_of_getElem? hj)
  refine ⟨j,s[j],hj,List.getElem?_eq_getElem hjl,?_⟩
  rw [List.getElem?_eq_getElem hjl];exact renObj_ren ρ _
 ·intro p hp
  rw [List.mem_map] at hp
  obtain ⟨t,_,rfl⟩:=hp
  exact renN_ren ρ 4 _
theorem withFrz_view (F : List Nat) (e : AE) : View m (envOf e) s (envOf (withFrz F e s).1) (withFrz F e s).2:=by
 refine View.give' F 6 _ _ (by simp [withFrz]) ?_ ?_
 ·intro k o2 h hd
  simp only [withFrz,List.getElem?_mapIdx,Option.map_eq_some_iff] at h
  obtain ⟨o,h1,h2⟩:=h
  split at h2
  ·exact absurd h2.symm hd
  ·rename_i hk
   refine ⟨hk,o,h1,?_⟩
   split at h2
   ·subst h2
    refine ⟨rfl,by simp,fun r row row2 g g2=>?_⟩
    rw [List.getElem?_map,g] at g2
    cases g2
    refine ⟨by simp,fun j v v2 g g2=>?_⟩
    rw [List.getElem?_map,g] at g2
    cases g2
    dsimp only
    split
    ·exact .deref rfl
    ·exact .same
   ·subst h2
    refine ⟨by simp,fun j p p2 g g2=>?_⟩
    rw [List.getElem?_map,g] at g2
    cases g2
    refine ⟨.same,?_⟩
    dsimp only
    split
    ·exact .deref rfl
    ·exact .same
   ·subst h2;exact .same
 ·intro t
  simp only [withFrz]
  induction e with
  | nil=>exact .same
  | cons p r ih=>
   obtain ⟨u,v⟩:=p
   simp only [List.map_cons,envOf]
   split
   ·split
    ·exact .deref rfl
    ·exact .same
   ·exact ih
theorem voids_view : ∀ (V : List (Nat × Option Nat × Nat)) (e : AE) (s : Store) (q : AE → Store → Prop),voids V e s q → ∃ e1 s1,View m (envOf e) s (envOf e1) s1 ∧ q e1 s1
 | [],e,s,q,h=>⟨e,s,View.refl _ _,h⟩
 | (t,none,z) :: r,e,s,q,h=>by
  unfold voids VoidW at h
  split at h
  ·rename_i hv
   obtain ⟨e1,s1,h1,h2⟩:=voids_view r _ _ q h
   refine ⟨e1,s1,View.trans (View.cast (View.void z _ s rfl ?_ fun p hp=>?_)) h1,h2⟩
   ·intro k o2 ho;exact ⟨o2,ho,.same⟩
   ·rw [normA_mem hp]
    by_cases he : p.1 = t
    ·rw [he,hv]
     have : envOf ((t,PV.sl s.length 0 0) :: e) t = .sl s.length 0 0:=by simp [envOf]
     rw [this];exact .nil
    ·have : envOf ((t,PV.sl s.length 0 0) :: e) p.1 = envOf e p.1 := by rw [envOf,if_neg he]
     rw [this];exact .same
  ·exact voids_view r e s q h
 | (t,some j,z) :: r,e,s,q,h=>by
  unfold voids GvW at h
  split at h
  ·unfold FrzT at h
   split at h
   ·obtain ⟨e1,s1,h1,h2⟩ := voids_view r _ _ q h
    exact ⟨e1,s1,View.trans (withFrz_view _ e) h1,h2⟩
   ·obtain ⟨e1,s1,h1,h2⟩ := voids_view r _ _ q h
    exact ⟨e1,s1,View.trans (withFrz_view _ e) h1,h2⟩
   ·exact voids_view r e s q h
  unfold VoidR at h
  split at h
  ·rename_i i z' row hv
   have hw : s[i]? = some (.rows z' [row]) ∧ row[j % 1000]? = some .nilsl:=by
    unfold voidRow voidRow0 at hv
    split at hv
    ·split at hv
     ·rename_i h1
      split at hv
      ·rename_i h2;cases hv;exact ⟨h1,h2⟩
      ·cases hv
     ·cases hv
    ·cases hv
   obtain ⟨hs,hr⟩:=hw
   ··
     obtain ⟨e1,s1,h1,h2⟩:=voids_view r _ _ q h
     have hlt:=lt_of_getElem? hs
     refine ⟨e1,s1,View.trans (View.cast (View.void z (normA e) (s.set i (.rows z' [row.set (j % 1000) (.sl s.length 0 0)])) (by simp) ?_ fun p hp=>?_)) h1,h2⟩
     ·intro k o2 ho
      rw [List.getElem?_set] at ho
      split at ho
      ·rename_i hik
       subst hik
       simp only [hlt,if_true,Option.some.injEq] at ho
       subst ho
       refine ⟨_,hs,rfl,rfl,fun k row row2 g g2=>?_⟩
       cases k with
       | succ k=>simp at g
       | zero=>
        simp at g g2;subst g g2
        refine ⟨by simp,fun c v v2 hc hc2=>?_⟩
        rw [List.getElem?_set] at hc2
        split at hc2
        ·rename_i hjc
         subst hjc
         rw [hr] at hc;cases hc
         simp only [lt_of_getElem? hr,if_true,Option.some.injEq] at hc2
         subst hc2;exact .nil
        ·rw [hc] at hc2;cases hc2;exact .same
      ·exact ⟨o2,ho,.same⟩
     ·rw [normA_mem hp];exact .same
  ·exact voids_view r e s q h
theorem withGc_view {V : List (Nat × Option Nat × Nat)} {T : List (Nat × Nat × Nat)} {L : List Nat} {e : AE} {q : AE → Store → Prop} (h : withGc m V T L e s q) : ∃ e1 s1,View m (envOf e) s (envOf e1) s1 ∧ q e1 s1:=by
 obtain ⟨e1,s1,h1,hm,h2⟩:=voids_view (m:=m) V e s _ h
 obtain ⟨g1,g2,g3⟩:=grow_len (voidTs e1 T s1) m hm (mrefs (voidTs e1 T s1) m ++ L.flatMap fun t=>refsN 4 (envOf e1 t)) 64
 obtain ⟨f1,f2,f3⟩:=growT_inv (voidTs e1 T s1) e1 T _ g1 g2
 obtain ⟨e2,s2,h3,h4⟩:=gcStep_view f1 f2 (g3.trans f3) h2
 exact ⟨e2,s2,(h1.trans (voidTs_view T s1)).trans h3,h4⟩
end
def IfW (t : Bool) (x y : Prop) : Prop:=match t with
 | true=>x
 | false=>y
def IfB (t b : Bool) (x y : Prop) : Prop:=match b with
 | true=>IfW t x y
 | false=>IfW t y x
theorem ifW_elim {t : Bool} {x y : Prop} (h : IfW t x y) : (t = true → x) ∧ (t = false → y):=by
 cases t
 ·exact ⟨(fun h=>nomatch h),fun _=>h⟩
 ·exact ⟨fun _=>h,(fun h=>nomatch h)⟩
theorem ifB_elim {t b : Bool} {x y : Prop} (h : IfB t b x y) : (t = b → x) ∧ (t = !b → y):=by
 cases b
 ·exact ⟨(ifW_elim h).2,(ifW_elim h).1⟩
 ·exact ⟨(ifW_elim h).1,(ifW_elim h).2⟩
def BoolW (v : PV) (k : Bool → Prop) : Prop:=match v with
 | .bool t=>k t
 | _=>False
theorem boolW_elim {v : PV} {k : Bool → Prop} (h : BoolW v k) : ∃ t,v = .bool t ∧ k t:=by
 unfold BoolW at h;split at h
 ·exact ⟨_,rfl,h⟩
 ·exact h.elim
def GdW (v : PV) (b : Bool) (c : Nat) (e : AE) (x y : AE → Prop) : Prop:=match v with
 | .bool t=>IfB t b (x ((c,.bool b) :: e)) (y ((c,.bool !b) :: e))
 | .tuple []=>y e
 | _=>False
theorem gdW_elim {v : PV} {b : Bool} {c : Nat} {e : AE} {x y : AE → Prop} (h : GdW v b c e x y) : ∃ t,gdV v = some t ∧ (t = some b → v = .bool b ∧ x ((c,.bool b) :: e)) ∧ (t ≠ some b → (v = .bool !b ∧ y ((c,.bool !b) :: e)) ∨ (v = .tuple [] ∧ y e)):=by
 unfold GdW at h
 split at h
 ·rename_i t
  obtain ⟨h1,h2⟩:=ifB_elim h
  refine ⟨some t,rfl,fun ht=>?_,fun ht=>.inl ?_⟩
  ·cases ht;exact ⟨rfl,h1 rfl⟩
  ·have : t = !b := by cases t <;> cases b <;> simp_all
   subst this;exact ⟨rfl,h2 rfl⟩
 ·exact ⟨none,rfl,(fun h=>by cases h),(fun _=>.inr ⟨rfl,h⟩)⟩
 ·exact h.elim
abbrev KA:=Exit → AE → Store → Prop
def concP : Nat → PV → Option Value
 | _,.int k n=>some (.int k n)
 | _,.bool b=>some (.bool b)
 | n + 1,.agg vs=>(vs.mapM (concP n)).map fun l=>.agg l.toArray
 | n + 1,.iface t v=>(concP n v).map (.iface t)
 | _,_=>none
def panP : PV → Option Value
 | .iface t v=>concP 4 (.iface t v)
 | _=>none
theorem concP_rel {pub : PHeap} {σ : Sig} : ∀ (n : Nat) (v : PV) (c c' : Value),concP n v = some c → Rel pub σ v c' → c' = c
 | 0,v,c,c',h,hr=>by
  cases v <;> simp only [concP,reduceCtorEq,Option.some.injEq] at h <;> (cases hr;exact h)
 | n + 1,v,c,c',h,hr=>by
  cases v <;> simp only [concP,reduceCtorEq,Option.some.injEq] at h <;> first | (cases hr;exact h) | skip
  ·rename_i vs
   obtain ⟨l,h1,rfl⟩:=Option.map_eq_some_iff.1 h
   cases hr with
   | agg hsz hr=>
    rename_i arr
    congr 1
    have key : ∀ (vs : List PV) (l : List Value),vs.mapM (concP n) = some l → l.length = vs.length ∧ ∀ (j : Nat) (v : PV) (c : Value),vs[j]? = some v → l[j]? = some c → concP n v = some c:=by
     intro vs
     induction vs with
     | nil=>intro l h;cases h;exact ⟨rfl,fun j v c h=>by simp at h⟩
     | cons a r ih=>
      intro l h
      rw [List.mapM_cons] at h
      obtain ⟨x,hx,h⟩:=Option.bind_eq_some_iff.1 h
      obtain ⟨t,ht,h⟩:=Option.bind_eq_some_iff.1 h
      cases h
      obtain ⟨g1,g2⟩:=ih t ht
      refine ⟨by simp [g1],fun j v c hv hc=>?_⟩
      cases j with
      | zero=>simp at hv hc;subst hv hc;exact hx
      | succ j=>exact g2 j v c (by simpa using hv) (by simpa using hc)
    obtain ⟨g1,g2⟩:=key vs l h1
    apply Array.ext'
    apply List.ext_getElem?
    intro j
    rcases Nat.lt_or_ge j vs.length with hj | hj
    ·have e1 : vs[j]? = some vs[j] := List.getElem?_eq_getElem hj
     have e2 : arr[j]? = some (arr[j]'(by omega)):=Array.getElem?_eq_getElem _
     have e3 : l[j]? = some (l[j]'(by omega)):=List.getElem?_eq_getElem _
     have:=concP_rel n _ _ _ (g2 j _ _ e1 e3) (hr j _ _ e1 e2)
     rw [Array.getElem?_toList,e2,this,e3]
    ·rw [Array.getElem?_toList,Array.getElem?_eq_none (by omega),List.getElem?_eq_none (by simp;omega)]
  ·rename_i t v
   obtain ⟨x,h1,rfl⟩:=Option.map_eq_some_iff.1 h
   cases hr with
   | iface hr=>rw [concP_rel n v x _ h1 hr]
def CallA (P : Program) (m : Nat) (f : Operand) (args : Array Operand) (d : Option Tmp) (r : Option (FuncId × List PV)) (e : AE) (s : Store) (kp : KA) (k : AE → Store → Prop) : Prop:=
 r = fnArgs f args (envOf e) → ∃ e1 s1 fid vs,View m (envOf e) s (envOf e1) s1 ∧ fnArgs f args (envOf e1) = some (fid,vs) ∧ Enters P fid ∧
  ((∃ v s2,CallOK P fid vs s1 v s2 ∧ k (updA e1 d v) s2) ∨ ∃ v s2,CallPan P fid vs s1 v s2 ∧ kp (pan1 v) e1 s2)
def CallD (P : Program) (d : Option Tmp) (r : Option (FuncId × List PV)) (e : AE) (s : Store) (k : AE → Store → Prop) : Prop:=
 ∃ fid vs v s2,r = some (fid,vs) ∧ Enters P fid ∧ CallOK P fid vs s v s2 ∧ k (updA e d v) s2
def CallM (P : Program) (r : Option (FuncId × List PV)) (s : Store) (k : PV → Prop) : Prop:=
 ∃ fid vs v,r = some (fid,vs) ∧ Enters P fid ∧ (∀ t,CallOK P fid vs (s ++ t) v (s ++ t)) ∧ k v
def nests (s : Store) (parts : List PV) : List Nat:=grow s 64 ((parts.flatMap (refsN 4)).filter fun r=>!r.2) []
def FrzW (F : List Nat) (e : AE) (s : Store) (k : AE → Store → Prop) : Prop:=match F with
 | []=>k e s
 | i :: r=>k (withFrz (i :: r) e s).1 (withFrz (i :: r) e s).2
def rshObj (j off : Nat) : Option PObj → Option (Nat × Nat × List PV)
 | some (.rows _ [row])=>some (j,off,row)
 | _=>none
def rshV (s : Store) : PV → Option (Nat × Nat × List PV)
 | .ptr j 0 off=>rshObj j off s[j]?
 | _=>none
def RshO (o : Option (Nat × Nat × List PV)) (x : Nat → Nat → List PV → Prop) (y : Prop) : Prop:=match o with
 | some (j,off,row)=>x j off row
 | none=>y
def RshW : List Nat → AE → Store → (AE → Store → Prop) → Prop
 | [],e,s,k=>k e s
 | t :: r,e,s,k=>if 10000 ≤ t then RshO (rshV s (envOf e (t - 10000))) (fun j off row=>RshW r ((t - 10000,.ptr s.length 0 off) :: e) (s.set j .dead ++ [.rows 1 (row.map fun x=>[x])]) k) (RshW r e s k) else RshW r e s k
theorem RshW_view {m : Nat} : ∀ (L : List Nat) (e : AE) (s : Store) (k : AE → Store → Prop),RshW L e s k → ∃ e1 s1,View m (envOf e) s (envOf e1) s1 ∧ k e1 s1
 | [],e,s,k,h=>⟨e,s,View.refl _ _,h⟩
 | t :: r,e,s,k,h=>by
  unfold RshW at h
  split at h
  ·unfold RshO at h
   split at h
   ·rename_i j off row hv
    obtain ⟨e1,s1,h1,h2⟩:=RshW_view (m:=m) r _ _ k h
    unfold rshV at hv
    split at hv
    ·rename_i j' off' he
     unfold rshObj at hv
     split at hv
     ·rename_i z row' hs
      cases hv
      exact ⟨e1,s1,View.trans (View.reshape (t - 10000) _ _ z row he hs) h1,h2⟩
     ·cases hv
    ·cases hv
   ·exact RshW_view r e s k h
  ·exact RshW_view r e s k h
def xiface (P : Program) (T : TypeId) (v : PV) : Option PV:=match P.underlying T with
 | none=>none
 | some (.interface _)=>none
 | some _=>some (.iface T v)
def xassert (P : Program) (A : TypeId) (ok : Bool) (v : PV) : Option PV:=match P.underlying A with
 | none=>none
 | some (.interface _)=>none
 | some _=>match v with
  | .niliface=>if ok = true then (zvOf P A).map fun z=>.tuple [z,.bool false] else none
  | .iface t v=>if t = A then some (if ok = true then .tuple [v,.bool true] else v) else if ok = true then (zvOf P A).map fun z=>.tuple [z,.bool false] else none
  | _=>none
def isE0 : PV → PV → Bool
 | .list [],.nilsl=>true
 | _,_=>false
def xnilI (P : Program) (T : TypeId) (v : PV) : Option PV:=match P.underlying T with
 | some (.interface _)=>match v with
  | .niliface=>some (.bool true)
  | .iface _ _=>some (.bool false)
  | _=>none
 | _=>none
def wop1 (P : Program) (m : Nat) (d : Option Tmp) (op : Op) (e : AE) (s : Store) (kp : KA) (k : AE → Store → Prop) : Prop:=match op with
 | .call ⟨.value f,args,_⟩=>CallA P m f args d (fnArgs f args (envOf e)) e s kp k
 | .call ⟨.builtin .len,args,Ts⟩=>match args.toList,Ts.toList with
  | [x],[T]=>Sat (tinfo P T) fun ti=>Sat (xlen ti (evO (envOf e) x)) fun n=>n ≤ maxLen → k (updA e d (.int .i64 (n : Int))) s
  | _,_=>False
 | .buildSlice T len parts=>FrzW (nests s (parts.toList.map fun p=>evO (envOf e) p.2)) e s fun e s=>Sat (xop P (.buildSlice T len parts) (envOf e) s) fun p=>k (updA e d p.1) p.2
 | .makeInterface T x=>Sat (xiface P T (evO (envOf e) x)) fun v=>k (updA e d v) s
 | .typeAssert x _ A ok=>Sat (xassert P A ok (evO (envOf e) x)) fun v=>k (updA e d v) s
 | .panic x=>Sat (panP (evO (envOf e) x)) fun v=>kp (pan1 v) e s
 | .binOp .eql T x (.const .nilIface) _=>Sat (xnilI P T (evO (envOf e) x)) fun v=>k (updA e d v) s
 | .binOp .eql T x y z=>if isE0 (evO (envOf e) x) (evO (envOf e) y) = true then Sat (tinfo P T) fun ti=>isSlk ti.kind = true ∧ ∀ b,k (updA e d (.bool b)) s else Sat (xop P (.binOp .eql T x y z) (envOf e) s) fun p=>k (updA e d p.1) p.2
 | op=>Sat (xop P op (envOf e) s) fun p=>k (updA e d p.1) p.2
def wops (P : Program) (m : Nat) : List LOp → AE → Store → KA → Prop
 | [],e,s,K=>K .normal e s
 | ⟨d,op,g⟩ :: r,e,s,K=>match g with
  | none=>wop1 P m d op e s K fun e s=>wops P m r e s K
  | some (some c,b)=>GdW (envOf e c) b c e (fun e=>wop1 P m d op e s K fun e s=>wops P m r e s K) (fun e=>wops P m r (updA e d (.tuple [])) s K)
  | some (none,_)=>False
def dop1 (P : Program) (d : Option Tmp) (op : Op) (e : AE) (s : Store) (k : AE → Store → Prop) : Prop:=match op with
 | .call ⟨.value f,args,_⟩=>CallD P d (fnArgs f args (envOf e)) e s k
 | op=>Sat (xop P op (envOf e) s) fun p=>k (updA e d p.1) p.2
def dops (P : Program) : List LOp → AE → Store → (AE → Store → Prop) → Prop
 | [],e,s,k=>k e s
 | ⟨d,op,g⟩ :: r,e,s,k=>match g with
  | none=>dop1 P d op e s fun e s=>dops P r e s k
  | some (some c,b)=>GdW (envOf e c) b c e (fun e=>dop1 P d op e s fun e s=>dops P r e s k) (fun e=>dops P r (updA e d (.tuple [])) s k)
  | some (none,_)=>False
def lateNe (lo : Option LOp) (d : Option Tmp) : Prop:=match lo with
 | none=>True
 | some l=>d ≠ l.d
def isZ : Option LOp → Bool
 | some ⟨none,_,_⟩=>true
 | some ⟨some _,_,some (none,_)⟩=>true
 | _=>false
def zmk (l : LOp) : LOp:=⟨l.d,l.op,some (none,true)⟩
def unz (l : LOp) : LOp:=match l.g with
 | some (none,_)=>⟨l.d,l.op,none⟩
 | _=>l
theorem unz_d (l : LOp) : (unz l).d = l.d:=by unfold unz;split <;> rfl
def markZ : LOp:=⟨none,.move (.const (.bool true)),none⟩
def yfz (ti : TI) (len : Nat) (parts : List (Nat × PV)) : Option (List (List PV)):=match ti.kind with
 | .slice _ esz _ _ (some z)=>if z.length = esz ∧ len * esz ≤ 16777216 ∧ esz ≠ 0 then fillRows esz (List.replicate len z) parts else none
 | _=>none
def xfz (P : Program) (T : TypeId) (len : Nat) (parts : Array (Nat × Operand)) (e : Env) : Option (List (List PV)):=(tinfo P T).bind fun ti=>yfz ti len (parts.toList.map fun p=>(p.1,evO e p.2))
def fzDst (args : Array Operand) (E : Env) : Bool:=match args.toList with
 | [x,_]=>isClip (evO E x)
 | _=>false
def xafz (P : Program) (args : Array Operand) (Ts : Array TypeId) (E : Env) : Option (List (List PV)):=match args.toList,Ts.toList with
 | [x,y],[T,T2]=>(tinfo P T).bind fun ti=>(tinfo P T2).bind fun ti2=>if notInt ti2.kind = true then yafz ti (evO E x) (evO E y) else none
 | _,_=>none
def mop1 (P : Program) (lo : Option LOp) (d : Option Tmp) (op : Op) (e : AE) (s f : Store) (k : PV → Store → Prop) : Prop:=match op with
 | .call ⟨.value g,args,_⟩=>CallM P (fnArgs g args (envOf e)) s fun v=>k v f
 | .buildSlice T len parts=>if isZ lo = true then Sat (xfz P T len parts (envOf e)) fun rows=>(∀ row ∈ rows,∀ c ∈ row,Closed c) ∧ k (.list rows) f else Sat (xop P (.buildSlice T len parts) (envOf e) s) fun p=>f = [] ∧ lateNe lo d ∧ s.length < p.2.length ∧ p.2 = s ++ p.2.drop s.length ∧ k p.1 (p.2.drop s.length)
 | .call ⟨.builtin .append,args,Ts⟩=>if isZ lo = true ∧ fzDst args (envOf e) = true then Sat (xafz P args Ts (envOf e)) fun rows=>k (.list rows) f else Sat (xop P (.call ⟨.builtin .append,args,Ts⟩) (envOf e) s) fun p=>f = [] ∧ lateNe lo d ∧ s.length < p.2.length ∧ p.2 = s ++ p.2.drop s.length ∧ k p.1 (p.2.drop s.length)
 | op=>if isRead op = true then Sat (xop P op (envOf e) s) fun p=>k p.1 f else Sat (xop P op (envOf e) s) fun p=>f = [] ∧ lateNe lo d ∧ s.length < p.2.length ∧ p.2 = s ++ p.2.drop s.length ∧ k p.1 (p.2.drop s.length)
def lateA (P : Program) (lo : Option LOp) (ops : List LOp) (e : AE) (s : Store) (k : AE → Store → Prop) : Prop:=match lo with
 | none=>True
 | some l=>match l.d with
  | none=>True
  | some dl=>match ops with
   | b :: r=>dops P (b :: unz l :: r) (updA e (some dl) .any) s k
   | []=>False
def mops (P : Program) (lo : Option LOp) : Nat → List LOp → AE → Store → Store → (AE → Store → Prop) → Prop
 | 0,ops,e,s,f,k=>dops P ops e (s ++ f) k ∧ lateA P lo ops e (s ++ f) k
 | n + 1,[],e,s,f,k=>False
 | n + 1,⟨d,op,g⟩ :: r,e,s,f,k=>match g with
  | none=>mop1 P lo d op e s f fun v f'=>mops P lo n r (updA e d v) s f' k
  | some (some c,b)=>GdW (envOf e c) b c e (fun e=>mop1 P lo d op e s f fun v f'=>mops P lo n r (updA e d v) s f' k) (fun e=>mops P lo n r (updA e d (.tuple [])) s f k)
  | some (none,_)=>False
def xzop (P : Program) (op : Op) (E : Env) : Option (List (List PV)):=match op with
 | .buildSlice T len parts=>xfz P T len parts E
 | .call ⟨.builtin .append,args,Ts⟩=>xafz P args Ts E
 | _=>none
def xzcl (op : Op) (rows : List (List PV)) : Prop:=match op with
 | .buildSlice ..=>∀ row ∈ rows,∀ c ∈ row,Closed c
 | _=>True
def CallT (P : Program) (d : Option Tmp) (r : Option (FuncId × List PV)) (e : AE) (s : Store) (kp : KA) (k : AE → Store → Prop) : Prop:=
 ∃ fid vs,r = some (fid,vs) ∧ Enters P fid ∧ ((∃ v s2,CallOK P fid vs s v s2 ∧ k (updA e d v) s2) ∨ ∃ v s2,CallPan P fid vs s v s2 ∧ kp (pan1 v) [] s2)
def tops (P : Program) : RT → AE → Store → KA → (AE → Store → Prop) → Prop
 | .fin,e,s,_,k=>k e s
 | .bad,_,_,_,_=>False
 | .op d op t,e,s,K,k=>Sat (xop P op (envOf e) s) fun p=>tops P t (updA e d p.1) p.2 K k
 | .ck d op t,e,s,K,k=>(Sat (xop P op (envOf e) s) fun p=>p.1 = envOf e d) ∧ tops P t e s K k
 | .br a b,e,s,K,k=>tops P a e s K k ∧ tops P b e s K k
 | .call d f args t,e,s,K,k=>CallT P d (fnArgs f args (envOf e)) e s K fun e s=>tops P t e s K k
 | .zop d op t,e,s,K,k=>Sat (xzop P op (envOf e)) fun rows=>xzcl op rows ∧ tops P t (updA e d (.list rows)) s K k
inductive XC where
 | skip | ret | other
 | reg (ops : List LOp)
 | drawn (id : Nat) (ops : List LOp)
 | seq (a b : XC)
 | cond (c : Operand) (a b : XC)
 | block (id : Nat) (c : XC)
 | bloop (id : Nat) (c : XC)
 | exit (id : Nat)
def lt : Code → XC
 | .skip=>.skip
 | .ret=>.ret
 | .region _ ops false=>.reg (lopsL (dsts ops.toList) ops.toList)
 | .region id ops true=>.drawn id (lopsL (dsts ops.toList) ops.toList)
 | .seq a b=>.seq (lt a) (lt b)
 | .cond c a b=>.cond c (lt a) (lt b)
 | .block i (.loop c)=>.bloop i (lt c)
 | .block i c=>.block i (lt c)
 | .exit i=>.exit i
 | .label _=>.skip
 | .scope c=>lt c
 | _=>.other
inductive Cls where
 | draw | mix (n : Nat) | mixz (n : Nat) | mix3 (n L : Nat) | mixz3 (n L : Nat) | tree (t : MT) | treez (t : MT)
structure Ann where
 cls : List (Nat × Cls)
 loops : List (Nat × List (Nat × Option Nat × Nat) × List Nat × List Nat)
 frz : List (Nat × List Nat):=[]
def Ann.frzOf (A : Ann) (i : Nat) : List Nat:=match A.frz.find? fun p=>p.1 == i with
 | some p=>p.2
 | none=>[]
def Ann.clsOf (A : Ann) (i : Nat) : Cls:=match A.cls.find? fun p=>p.1 == i with
 | some p=>p.2
 | none=>.draw
def Ann.loopOf (A : Ann) (i : Nat) : List (Nat × Option Nat × Nat) × List Nat × List Nat:=match A.loops.find? fun p=>p.1 == i with
 | some p=>p.2
 | none=>([],[],[])
def seqA (b : AE → Store → Prop) (k : KA) : KA
 | .normal,e,s=>b e s
 | x,e,s=>k x e s
def blockA (id : Nat) (k : KA) : KA
 | .exit i,e,s=>if i = id then k .normal e s else k (.exit i) e s
 | x,e,s=>k x e s
def roundA (m : Nat) (A : List (Nat × Option Nat × Nat) × List Nat × List Nat) (Q : AE → Store → Prop) (k : KA) : KA
 | .normal,e,s=>withGc m A.1 (tabsOf A.1) A.2.1 e s Q
 | x,e,s=>withGc m [] (tabsX A.2.2 (tabsOf A.1)) A.2.2 e s (k x)
def wloop (m : Nat) (A : List (Nat × Option Nat × Nat) × List Nat × List Nat) (body : AE → Store → KA → Prop) (e : AE) (s : Store) (k : KA) : Prop:=
 ∀ Q : AE → Store → Prop,(∀ e s,body e s (roundA m A Q k) → Q e s) → withGc m A.1 (tabsOf A.1) A.2.1 e s Q
def condE (e : AE) (c : Operand) (b : Bool) : AE:=match c with
 | .tmp t=>(t,.bool b) :: e
 | _=>e
def wexec (P : Program) (m : Nat) (A : Ann) : XC → AE → Store → KA → Prop
 | .skip,e,s,k=>k .normal e s
 | .ret,e,s,k=>k .ret e s
 | .exit i,e,s,k=>k (.exit i) e s
 | .other,_,_,_=>False
 | .reg ops,e,s,k=>wops P m ops e s k
 | .drawn id ops,e,s,k=>RshW (A.frzOf id) e s fun e s=>FrzW (nests s ((A.frzOf id).map (envOf e))) e s fun e s=>match A.clsOf id with
  | .draw=>dops P ops e s (k .normal)
  | .mix n=>mops P none n ops e s [] (k .normal)
  | .mixz n=>mops P (some markZ) n ops e s [] (k .normal)
  | .mix3 n L=>mops P ops[L]? n ops e s [] (k .normal)
  | .mixz3 n L=>mops P (ops[L]?.map zmk) n ops e s [] (k .normal)
  | .tree t=>tops P (resolve false ops t) e s k (k .normal)
  | .treez t=>tops P (resolve true ops t) e s k (k .normal)
 | .seq a b,e,s,k=>wexec P m A a e s (seqA (fun e s=>wexec P m A b e s k) k)
 | .cond c a b,e,s,k=>BoolW (evO (envOf e) c) fun t=>IfW t (wexec P m A a (condE e c true) s k) (wexec P m A b (condE e c false) s k)
 | .block i c,e,s,k=>wexec P m A c e s (blockA i k)
 | .bloop i c,e,s,k=>wloop m (A.loopOf i) (wexec P m A c) e s (blockA i k)
def noGuard (ops : Array Oper) (L : Nat) : Bool:=match ops[L]? with
 | some o=>o.guard.isNone
 | none=>false
structure FrM where
 n : Nat
 ks : List Nat:=[]
instance : Coe Nat FrM:=⟨fun n=>⟨n,[]⟩⟩
def FrN.m (N : FrN) : FrM:=⟨N.n,N.K.map (·.1)⟩
def FrM.ok (N : FrM) (d : Nat) : Bool:=decide (d < N.n) && N.ks.all fun k=>k != d
def chkC (N : FrM) (A : Ann) : Code → Bool
 | .region id ops draw=>(ops.toList.all fun o=>match o.dst with | some d=>N.ok d | none=>true) && (!draw || match A.clsOf id with
  | .draw=>drawChk ops (drawM ops)
  | .mix n=>mixChk3 ops n none
  | .mixz n=>mixChk3 ops n none
  | .mix3 n L=>mixChk3 ops n (some L) && noGuard ops L
  | .mixz3 n L=>mixChk3 ops n (some L) && noGuard ops L
  | .tree t=>chkTree ops t
  | .treez t=>chkTree ops t)
 | .seq a b=>chkC N A a && chkC N A b
 | .cond _ a b=>chkC N A a && chkC N A b
 | .block _ c=>chkC N A c
 | .loop c=>chkC N A c
 | .scope c=>chkC N A c
 | _=>true
end Go.Pv
