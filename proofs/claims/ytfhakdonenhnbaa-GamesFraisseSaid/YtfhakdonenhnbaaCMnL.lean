import Derived.Test.YtfhakdonenhnbaaCMnF
set_option linter.unusedVariables false
set_option linter.unusedSimpArgs false
set_option maxRecDepth 100000
set_option maxHeartbeats 4000000
namespace Go.Proofs.Ytfhakdonenhnbaa
open Go Go.Pv
abbrev Ev:=List (ByteArray × Int)
def Keys (L : Ev) : Prop:=(L.map Prod.fst).Nodup
theorem lookI_cons (x : ByteArray) (p : ByteArray × Int) (r : Ev) : lookI x (p :: r) = if x = p.1 then some p.2 else lookI x r:=rfl
theorem map_eraseM {α β : Type} (f : α → β) : ∀ (l : List α) (j : Nat),(l.map f).eraseIdx j = (l.eraseIdx j).map f
 | [],_=>rfl
 | _ :: _,0=>rfl
 | a :: r,j + 1=>by rw [List.map_cons,List.eraseIdx_cons_succ,List.eraseIdx_cons_succ,List.map_cons,map_eraseM f r j]
theorem env_put (x : ByteArray) (v : Int) (L : Ev) (hk : Keys L) : ∃ L',(∀ r,findP (.str x) (mapI L) 0 = some r → putP (.str x) (.int .i64 v) (mapI L) r = mapI L') ∧ Keys L' ∧ ∀ y,lookI y L' = if y = x then some v else lookI y L:=by
 have gen : ∀ (L : Ev) (i : Nat),Keys L → (∀ q ∈ L,q.1 ≠ x) ∧ findP (.str x) (mapI L) i = some none ∨ ∃ j m,findP (.str x) (mapI L) i = some (some (i + j,m)) ∧ j < L.length ∧ Keys (L.set j (x,v)) ∧ (L.set j (x,v)).map Prod.fst = L.map Prod.fst ∧ ∀ y,lookI y (L.set j (x,v)) = if y = x then some v else lookI y L:=by
  intro L
  induction L with
  | nil=>intro i _;exact .inl ⟨fun q h=>(by cases h),rfl⟩
  | cons p r ih=>
   intro i hk
   have hkr : Keys r:=by unfold Keys at hk ⊢;rw [List.map_cons,List.nodup_cons] at hk;exact hk.2
   by_cases h : x = p.1
   ·refine .inr ⟨0,.int .i64 p.2,by simp [mapI,findP,keyEq,h],by simp,?_,?_,fun y => ?_⟩
    ·unfold Keys at hk ⊢;simpa [h] using hk
    ·simp [h]
    ·rw [List.set_cons_zero,lookI_cons,lookI_cons]
     dsimp only
     by_cases hy : y = x
     ·rw [if_pos hy,if_pos hy]
     ·rw [if_neg hy,if_neg hy,if_neg (fun g=>hy (g.trans h.symm))]
   ·rcases ih (i + 1) hkr with ⟨h1,h2⟩ | ⟨j,m,h1,h2,h3,h4,h5⟩
    ·refine .inl ⟨fun q hq => ?_,?_⟩
     ·cases hq with
      | head=>exact fun g=>h g.symm
      | tail _ hq=>exact h1 q hq
     ·simpa [mapI,findP,keyEq,h] using h2
    ·refine .inr ⟨j + 1,m,?_,by simp; omega,?_,?_,fun y => ?_⟩
     ·rw [show i + (j + 1) = i + 1 + j by omega]
      simpa [mapI,findP,keyEq,h] using h1
     ·unfold Keys at hk ⊢
      rw [List.set_cons_succ,List.map_cons,h4]
      simpa using hk
     ·rw [List.set_cons_succ,List.map_cons,h4,List.map_cons]
     ·rw [List.set_cons_succ,lookI_cons,lookI_cons,h5]
      by_cases hy : y = p.1
      ·rw [if_pos hy,if_neg (fun g=>h (g.symm.trans hy)),if_pos hy]
      ·rw [if_neg hy,if_neg hy]
 rcases gen L 0 hk with ⟨h1,h2⟩ | ⟨j,m,h1,h2,h3,h4,h5⟩
 ·refine ⟨L ++ [(x,v)],fun r hr => ?_,?_,fun y => ?_⟩
  ·rw [h2] at hr
   cases hr
   rw [putP_none,mapI_snoc]
  ·unfold Keys at hk ⊢
   rw [List.map_append,List.nodup_append]
   refine ⟨hk,by simp,fun a ha b hb=>?_⟩
   obtain ⟨q,hq,rfl⟩:=List.mem_map.1 ha
   simp only [List.map_cons,List.map_nil,List.mem_singleton] at hb
   rw [hb]
   exact h1 q hq
  ·clear h2 hk
   induction L with
   | nil=>simp [lookI]
   | cons p r ih=>
    rw [List.cons_append,lookI_cons,lookI_cons,ih fun q hq=>h1 q (by simp [hq])]
    by_cases hy : y = p.1
    ·rw [if_pos hy,if_neg (fun g=>h1 p (by simp) (hy.symm.trans g)),if_pos hy]
    ·rw [if_neg hy,if_neg hy]
 ·refine ⟨L.set j (x,v),fun r hr => ?_,h3,h5⟩
  rw [h1] at hr
  cases hr
  rw [putP_some,Nat.zero_add]
  simp [mapI,List.map_set]
theorem env_del (x : ByteArray) (L : Ev) (hk : Keys L) : ∃ L',(∀ r,findP (.str x) (mapI L) 0 = some r → delP (mapI L) r = mapI L') ∧ Keys L' ∧ ∀ y,lookI y L' = if y = x then none else lookI y L:=by
 have gen : ∀ (L : Ev) (i : Nat),Keys L → (∀ q ∈ L,q.1 ≠ x) ∧ findP (.str x) (mapI L) i = some none ∨ ∃ j m,findP (.str x) (mapI L) i = some (some (i + j,m)) ∧ Keys (L.eraseIdx j) ∧ (∀ q ∈ L.eraseIdx j,q ∈ L) ∧ ∀ y,lookI y (L.eraseIdx j) = if y = x then none else lookI y L:=by
  intro L
  induction L with
  | nil=>intro i _;exact .inl ⟨fun q h=>(by cases h),rfl⟩
  | cons p r ih=>
   intro i hk
   have hk2:=hk
   unfold Keys at hk2
   rw [List.map_cons,List.nodup_cons] at hk2
   have hkr : Keys r:=hk2.2
   by_cases h : x = p.1
   ·refine .inr ⟨0,.int .i64 p.2,by simp [mapI,findP,keyEq,h],by simpa using hkr,fun q hq => by simp at hq; simp [hq],fun y => ?_⟩
    rw [List.eraseIdx_cons_zero,lookI_cons]
    by_cases hy : y = x
    ·rw [if_pos hy]
     have : ∀ r : Ev,p.1 ∉ r.map Prod.fst → lookI p.1 r = none:=by
      intro r
      induction r with
      | nil=>intro _;rfl
      | cons a s ih=>
       intro hn
       rw [List.map_cons,List.mem_cons,not_or] at hn
       rw [lookI_cons,if_neg hn.1,ih hn.2]
     rw [hy,h,this r hk2.1]
    ·rw [if_neg hy,if_neg (fun g=>hy (g.trans h.symm))]
   ·rcases ih (i + 1) hkr with ⟨h1,h2⟩ | ⟨j,m,h1,h3,h4,h5⟩
    ·refine .inl ⟨fun q hq => ?_,?_⟩
     ·cases hq with
      | head=>exact fun g=>h g.symm
      | tail _ hq=>exact h1 q hq
     ·simpa [mapI,findP,keyEq,h] using h2
    ·refine .inr ⟨j + 1,m,?_,?_,fun q hq => ?_,fun y => ?_⟩
     ·rw [show i + (j + 1) = i + 1 + j by omega]
      simpa [mapI,findP,keyEq,h] using h1
     ·unfold Keys at h3 ⊢
      rw [List.eraseIdx_cons_succ,List.map_cons,List.nodup_cons]
      refine ⟨fun g=>hk2.1 ?_,h3⟩
      obtain ⟨q,hq,e⟩:=List.mem_map.1 g
      exact List.mem_map.2 ⟨q,h4 q hq,e⟩
     ·rw [List.eraseIdx_cons_succ] at hq
      cases hq with
      | head=>simp
      | tail _ hq=>exact List.mem_cons_of_mem _ (h4 q hq)
     ·rw [List.eraseIdx_cons_succ,lookI_cons,lookI_cons,h5]
      by_cases hy : y = p.1
      ·rw [if_pos hy,if_neg (fun g=>h (g.symm.trans hy)),if_pos hy]
      ·rw [if_neg hy,if_neg hy]
 rcases gen L 0 hk with ⟨h1,h2⟩ | ⟨j,m,h1,h3,h4,h5⟩
 ·refine ⟨L,fun r hr => ?_,hk,fun y => ?_⟩
  ·rw [h2] at hr
   cases hr
   rw [delP_none]
  ·split
   ·rename_i hy
    rw [hy]
    clear h2 hk
    induction L with
    | nil=>rfl
    | cons p r ih=>
     rw [lookI_cons,if_neg (fun g=>h1 p (by simp) g.symm),ih fun q hq=>h1 q (by simp [hq])]
   ·rfl
 ·refine ⟨L.eraseIdx j,fun r hr => ?_,h3,h5⟩
  rw [h1] at hr
  cases hr
  rw [delP_some,Nat.zero_add]
  unfold mapI
  exact map_eraseM _ _ _
open Classical in
noncomputable def putI (x : ByteArray) (v : Int) (L : Ev) : Ev:=if h : Keys L then (env_put x v L h).choose else L
open Classical in
noncomputable def delI (x : ByteArray) (L : Ev) : Ev:=if h : Keys L then (env_del x L h).choose else L
section
variable {x : ByteArray} {v : Int} {L : Ev} (h : Keys L)
include h
end
end Go.Proofs.Ytfhakdonenhnbaa
namespace Go.Proofs.Ytfhakdonenhnbaa
open Go Go.Pv
def updE (E : ByteArray → Int) (x : ByteArray) (v : Int) : ByteArray → Int:=fun y=>if y = x then v else E y
def valH (N : Int) (F : List Fn) (P : List Pd) (k : Int) (nm : ByteArray) (ws : List Wd) (vs : List ((ByteArray → Int) → Bool)) (E : ByteArray → Int) : Bool:=
 if k = 1 then ((predAt nm P).getD default).bits.getD (placeV N F E ws).toNat false
 else if k = 2 then decide (wordV N F E (ws.getD 0 default) = wordV N F E (ws.getD 1 default))
 else if k = 3 then true
 else if k = 5 then !(vs.getD 0 fun _=>false) E
 else if k = 6 then (vs.getD 0 fun _=>false) E && (vs.getD 1 fun _=>false) E
 else if k = 7 then (vs.getD 0 fun _=>false) E || (vs.getD 1 fun _=>false) E
 else if k = 8 then !(vs.getD 0 fun _=>false) E || (vs.getD 1 fun _=>false) E
 else if k = 9 then (List.range N.toNat).all fun x=>(vs.getD 0 fun _=>false) (updE E nm (x : Int))
 else if k = 10 then (List.range N.toNat).any fun x=>(vs.getD 0 fun _=>false) (updE E nm (x : Int))
 else false
mutual
def valV (N : Int) (F : List Fn) (P : List Pd) : Ex → (ByteArray → Int) → Bool
 | .mk k nm ws l=>valH N F P k nm ws (valsV N F P l)
def valsV (N : Int) (F : List Fn) (P : List Pd) : List Ex → List ((ByteArray → Int) → Bool)
 | []=>[]
 | e :: r=>valV N F P e :: valsV N F P r
end
theorem valsV_eq (N : Int) (F : List Fn) (P : List Pd) (l : List Ex) : valsV N F P l = l.map (valV N F P):=by
 induction l with
 | nil=>rfl
 | cons a r ih=>rw [valsV,ih];rfl
theorem valV_eq (N : Int) (F : List Fn) (P : List Pd) (e : Ex) : valV N F P e = valH N F P e.k e.nm e.words (e.kids.map (valV N F P)):=by
 cases e with | mk k a w l=>rw [valV,valsV_eq];rfl
def exH (F : List Fn) (P : List Pd) (k : Int) (nm : ByteArray) (ws : List Wd) (kc : Nat) : Bool:=
 wordsOkF F ws && decide (1 ≤ k ∧ k ≤ 10 ∧ (kc : Int) = kidsX k ∧ (k = 2 → ws.length = 2)) && (!decide (k = 1) || (predAt nm P).any fun p=>decide (p.ar = (ws.length : Int)))
mutual
def exOk (F : List Fn) (P : List Pd) : Ex → Bool
 | .mk k nm ws l=>exH F P k nm ws l.length && exsOk F P l
def exsOk (F : List Fn) (P : List Pd) : List Ex → Bool
 | []=>true
 | e :: r=>exOk F P e && exsOk F P r
end
theorem exOk_eq (F : List Fn) (P : List Pd) (e : Ex) : exOk F P e = (exH F P e.k e.nm e.words e.kids.length && exsOk F P e.kids):=by
 cases e with | mk k a w l=>rw [exOk];rfl
def PredsOk (N : Int) (P : List Pd) : Prop:=∀ f ∈ P,bitF N f = 0
theorem bitF_zero {N : Int} {f : Pd} (h : bitF N f = 0) : 0 ≤ f.ar ∧ f.ar ≤ 3 ∧ (f.bits.length : Int) = N ^ f.ar.toNat:=by
 unfold bitF at h
 split at h
 ·cases h
 rename_i h1
 split at h
 ·cases h
 rename_i h2
 exact ⟨by omega,by omega,Decidable.not_not.1 h2⟩
theorem predAt_mem {x : ByteArray} {F : List Pd} {f : Pd} (h : predAt x F = some f) : f ∈ F:=List.mem_of_find?_eq_some h
def stE (L : Ev) : Store:=[.map (mapI L)]
attribute [simp] stE
end Go.Proofs.Ytfhakdonenhnbaa
namespace Go.Proofs.Ytfhakdonenhnbaa
open Go Go.Pv
@[simp] theorem mapI_deref {s : Store} {n : Nat} (L : Ev) : (mapI L).map (fun p=>(deref s n p.1,deref s n p.2)) = mapI L:=by simp [mapI]
section
variable {C : WC} {f : Operand} {args : Array Operand} {d : Option Tmp} {fid : FuncId} {vs : List PV} {e : AE} {rest : Store} {L L' : Ev} {K : KS} {ops : List LOp}
theorem liveE : liveS [0] (stE L ++ rest) [0] = stE L:=by simp [liveS]
end
end Go.Proofs.Ytfhakdonenhnbaa
namespace Go.Proofs.Ytfhakdonenhnbaa
open Go Go.Pv
mutual
def kwF (F : List Fn) (L : Ev) (B : List ByteArray) : Wd → Bool
 | .mk nm l=>if isNameB nm = true then (lookI nm L).isSome || B.any (fun y=>decide (nm = y)) else (funAt nm F).any (fun f=>decide (f.ar = (l.length : Int))) && kwsF F L B l
def kwsF (F : List Fn) (L : Ev) (B : List ByteArray) : List Wd → Bool
 | []=>true
 | w :: r=>kwF F L B w && kwsF F L B r
end
theorem kwF_eq {F : List Fn} {L : Ev} {B : List ByteArray} (w : Wd) : kwF F L B w = if isNameB w.nm = true then (lookI w.nm L).isSome || B.any (fun y=>decide (w.nm = y)) else (funAt w.nm F).any (fun f=>decide (f.ar = (w.args.length : Int))) && kwsF F L B w.args:=by
 cases w with | mk a l=>rw [kwF];rfl
theorem kwsF_all {F : List Fn} {L : Ev} {B : List ByteArray} : ∀ l : List Wd,kwsF F L B l = l.all (kwF F L B)
 | []=>rfl
 | w :: r=>by rw [kwsF,kwsF_all r,List.all_cons]
def bindB (k : Int) (nm : ByteArray) (B : List ByteArray) : List ByteArray:=if k = 9 ∨ k = 10 then B ++ [nm] else B
mutual
def exK (F : List Fn) (P : List Pd) (L : Ev) : Ex → List ByteArray → Bool
 | .mk k nm ws l=>fun B=>(!decide (k = 1) || (predAt nm P).any (fun p=>decide (p.ar = (ws.length : Int)))) && kwsF F L B ws && exsK F P L l (bindB k nm B)
def exsK (F : List Fn) (P : List Pd) (L : Ev) : List Ex → List ByteArray → Bool
 | []=>fun _=>true
 | e :: r=>fun B=>exK F P L e B && exsK F P L r B
end
theorem exK_eq {F : List Fn} {P : List Pd} {L : Ev} (e : Ex) (B : List ByteArray) : exK F P L e B = ((!decide (e.k = 1) || (predAt e.nm P).any (fun p=>decide (p.ar = (e.words.length : Int)))) && kwsF F L B e.words && exsK F P L e.kids (bindB e.k e.nm B)):=by
 cases e with | mk k a w l=>rw [exK];rfl
theorem exsK_all {F : List Fn} {P : List Pd} {L : Ev} {B : List ByteArray} : ∀ l : List Ex,exsK F P L l B = l.all (fun e=>exK F P L e B)
 | []=>rfl
 | w :: r=>by
  rw [exsK,List.all_cons]
  dsimp only
  rw [exsK_all r]
def lastI (x : ByteArray) : List ByteArray → List Int → Option Int
 | n :: r,v :: q=>match lastI x r q with
  | some m=>some m
  | none=>if n = x then some v else none
 | _,_=>none
mutual
def wordR (N : Int) (F : List Fn) (ns : List ByteArray) (vs : List Int) : Wd → Int
 | .mk nm l=>if isNameB nm = true then (lastI nm ns vs).getD (-1) else match wordsR N F ns vs l (0,1) with
  | none=>-1
  | some q=>match F.find? (fun f=>decide (f.name = nm) && decide (f.ar = (l.length : Int))) with
   | some f=>f.tab.getD q.1.toNat 0
   | none=>-1
def wordsR (N : Int) (F : List Fn) (ns : List ByteArray) (vs : List Int) : List Wd → Int × Int → Option (Int × Int)
 | []=>fun p=>some p
 | w :: r=>fun p=>if wordR N F ns vs w < 0 then none else wordsR N F ns vs r (IntKind.i64.wrap (p.1 + IntKind.i64.wrap (wordR N F ns vs w * p.2)),IntKind.i64.wrap (p.2 * N))
end
theorem wordR_eq {N : Int} {F : List Fn} {ns : List ByteArray} {vs : List Int} (w : Wd) : wordR N F ns vs w = if isNameB w.nm = true then (lastI w.nm ns vs).getD (-1) else match wordsR N F ns vs w.args (0,1) with
  | none=>-1
  | some q=>match F.find? (fun f=>decide (f.name = w.nm) && decide (f.ar = (w.args.length : Int))) with
   | some f=>f.tab.getD q.1.toNat 0
   | none=>-1:=by
 cases w with | mk a l=>rw [wordR];rfl
theorem wrap_in {a : Int} (h1 : -1000000000 ≤ a) (h2 : a ≤ 1000000000) : IntKind.i64.wrap a = a:=wrap64 (by omega) (by omega)
theorem pow8 {n : Int} (h0 : 0 < n) (h8 : n ≤ 8) {k : Nat} (hk : k ≤ 6) : 1 ≤ n ^ k ∧ n ^ k ≤ 262144:=by
 have h1:=pow_le8 (n:=n) (by omega) h8 k hk
 have : 0 < n ^ k:=Int.pow_pos h0
 omega
def plR (N : Int) (v : Wd → Int) : List Wd → Int
 | []=>0
 | w :: r=>v w + N * plR N v r
theorem plR_range {N : Int} (h0 : 0 < N) {v : Wd → Int} : ∀ {l : List Wd},(∀ w ∈ l,0 ≤ v w ∧ v w < N) → 0 ≤ plR N v l ∧ plR N v l < N ^ l.length
 | [],_=>by rw [plR];simp
 | a :: r,h=>by
  have ih:=plR_range h0 (l:=r) fun w hw=>h w (by simp [hw])
  have h1:=h a (by simp)
  rw [plR,List.length_cons,Int.pow_succ]
  have e1 : 0 ≤ N * plR N v r:=Int.mul_nonneg (by omega) ih.1
  have e2 : N * (plR N v r + 1) ≤ N * N ^ r.length:=Int.mul_le_mul_of_nonneg_left (by omega) (by omega)
  rw [Int.mul_add,Int.mul_one] at e2
  rw [Int.mul_comm (N ^ r.length)]
  omega
theorem plR_place {N : Int} {F : List Fn} {E : ByteArray → Int} {v : Wd → Int} : ∀ {l : List Wd},(∀ w ∈ l,v w = wordV N F E w) → plR N v l = placeV N F E l
 | [],_=>by rw [plR,placeV]
 | a :: r,h=>by
  rw [plR,placeV,plR_place (l:=r) fun w hw=>h w (by simp [hw]),h a (by simp),Int.mul_comm]
  omega
theorem wordsR_none {N : Int} {F : List Fn} {ns : List ByteArray} {vs : List Int} : ∀ (l : List Wd) (p : Int × Int),wordsR N F ns vs l p = none ↔ ∃ w ∈ l,wordR N F ns vs w < 0
 | [],p=>by rw [wordsR];simp
 | w :: r,p=>by
  rw [wordsR]
  dsimp only
  by_cases h : wordR N F ns vs w < 0
  ·rw [if_pos h];simp [h]
  ·rw [if_neg h,wordsR_none r];simp [h]
theorem wordsR_run {N : Int} (h0 : 0 < N) (h8 : N ≤ 8) {F : List Fn} {ns : List ByteArray} {vs : List Int} : ∀ (l : List Wd),(∀ w ∈ l,0 ≤ wordR N F ns vs w ∧ wordR N F ns vs w < N) → ∀ (j : Nat) (p : Int),0 ≤ p → p < N ^ j → j + l.length ≤ 3 → wordsR N F ns vs l (p,N ^ j) = some (p + N ^ j * plR N (wordR N F ns vs) l,N ^ (j + l.length))
 | [],_,j,p,_,_,_=>by rw [wordsR,plR];simp
 | w :: r,h,j,p,hp,hpj,hl=>by
  have h1:=h w (by simp)
  rw [List.length_cons] at hl
  have b1:=pow8 h0 h8 (k:=j) (by omega)
  have b2:=pow8 h0 h8 (k:=j + 1) (by omega)
  rw [Int.pow_succ] at b2
  have e1 : 0 ≤ wordR N F ns vs w * N ^ j:=Int.mul_nonneg h1.1 (by omega)
  have e2 : (wordR N F ns vs w + 1) * N ^ j ≤ N * N ^ j:=Int.mul_le_mul_of_nonneg_right (by omega) (by omega)
  rw [Int.add_mul,Int.one_mul,Int.mul_comm N] at e2
  rw [wordsR]
  dsimp only
  have w1:=wrap_in (a:=wordR N F ns vs w * N ^ j) (by omega) (by omega)
  have w2:=wrap_in (a:=p + wordR N F ns vs w * N ^ j) (by omega) (by omega)
  have w3:=wrap_in (a:=N ^ j * N) (by omega) (by omega)
  have ih:=wordsR_run h0 h8 (F:=F) (ns:=ns) (vs:=vs) r (fun w hw=>h w (by simp [hw])) (j + 1) (p + wordR N F ns vs w * N ^ j) (by omega) (by rw [Int.pow_succ];omega) (by omega)
  have e3 : N ^ (j + 1) * plR N (wordR N F ns vs) r = N ^ j * (N * plR N (wordR N F ns vs) r):=by rw [Int.pow_succ,Int.mul_assoc]
  have e4 : N ^ j * wordR N F ns vs w = wordR N F ns vs w * N ^ j:=Int.mul_comm _ _
  rw [e3] at ih
  rw [if_neg (by omega),w1,w2,w3,show N ^ j * N = N ^ (j + 1) from (Int.pow_succ _ _).symm,ih,plR,Int.mul_add,List.length_cons,e4,show j + 1 + r.length = j + (r.length + 1) by omega,Int.add_assoc]
theorem find_two {F : List Fn} (hn : (F.map Fn.name).Nodup) (x : ByteArray) (c : Int) : F.find? (fun f=>decide (f.name = x) && decide (f.ar = c)) = (funAt x F).filter fun f=>decide (f.ar = c):=by
 induction F with
 | nil=>rfl
 | cons g r ih=>
  rw [List.map_cons,List.nodup_cons] at hn
  have ih:=ih hn.2
  unfold funAt at ih ⊢
  by_cases h : g.name = x
  ·have h' : x = g.name := h.symm
   by_cases hc : g.ar = c
   ·have e1 : (decide (g.name = x) && decide (g.ar = c)) = true := by simp [h,hc]
    have e2 : decide (x = g.name) = true:=decide_eq_true h'
    rw [List.find?_cons,List.find?_cons,e1,e2]
    dsimp only
    rw [Option.filter_some,if_pos (by simpa using hc)]
   ·have e1 : (decide (g.name = x) && decide (g.ar = c)) = false := by simp [hc]
    have e2 : decide (x = g.name) = true:=by simp [h']
    rw [List.find?_cons,List.find?_cons,e1,e2]
    dsimp only
    rw [Option.filter_some,if_neg (by simpa using hc)]
    rw [List.find?_eq_none]
    intro f hf
    have : ¬ f.name = x:=fun g'=>hn.1 (by rw [h,← g'];exact List.mem_map_of_mem hf)
    simp [this]
  ·have h' : ¬ x = g.name := fun g' => h g'.symm
   have e1 : (decide (g.name = x) && decide (g.ar = c)) = false:=by simp [h]
   have e2 : decide (x = g.name) = false:=by simp [h']
   rw [List.find?_cons,List.find?_cons,e1,e2]
   exact ih
theorem lastI_range {N : Int} {x : ByteArray} : ∀ {ns : List ByteArray} {vs : List Int},(∀ v ∈ vs,0 ≤ v ∧ v < N) → ∀ m,lastI x ns vs = some m → 0 ≤ m ∧ m < N
 | [],vs,h,m,hm=>by simp [lastI] at hm
 | n :: r,[],h,m,hm=>by simp [lastI] at hm
 | n :: r,v :: q,h,m,hm=>by
  rw [lastI] at hm
  cases hl : lastI x r q with
  | some m'=>
   rw [hl] at hm
   cases hm
   exact lastI_range (fun v hv=>h v (by simp [hv])) _ hl
  | none=>
   rw [hl] at hm
   dsimp only at hm
   split at hm
   ·cases hm;exact h v (by simp)
   ·cases hm
theorem lastI_some {x : ByteArray} : ∀ {ns : List ByteArray} {vs : List Int},ns.length = vs.length → (lastI x ns vs).isSome = ns.any fun y=>decide (x = y)
 | [],[],_=>rfl
 | [],v :: q,h=>by cases h
 | n :: r,[],h=>by cases h
 | n :: r,v :: q,h=>by
  have ih:=lastI_some (x:=x) (ns:=r) (vs:=q) (by simpa using h)
  rw [lastI,List.any_cons,← ih]
  cases hl : lastI x r q with
  | some m=>simp
  | none=>
   dsimp only
   by_cases he : n = x
   ·simp [he]
   ·simp [he,Ne.symm he]
def envLs (ns : List ByteArray) (vs : List Int) (x : ByteArray) : Int:=(lastI x ns vs).getD 0
theorem wordR_spec {N : Int} (h0 : 0 < N) (h8 : N ≤ 8) {F : List Fn} (hF : FunsOk N F) (hn : (F.map Fn.name).Nodup) {ns : List ByteArray} {vs : List Int} (hl : ns.length = vs.length) (hv : ∀ v ∈ vs,0 ≤ v ∧ v < N) (w : Wd) :
  if kwF F [] ns w = true then wordR N F ns vs w = wordV N F (envLs ns vs) w ∧ 0 ≤ wordR N F ns vs w ∧ wordR N F ns vs w < N else wordR N F ns vs w = -1:=by
 induction w using Wd.ind with
 | h w ih=>
  rw [kwF_eq,wordR_eq,wordV_eq]
  by_cases hnm : isNameB w.nm = true
  ·rw [if_pos hnm,if_pos hnm,if_pos hnm,← lastI_some hl]
   unfold envLs
   cases hla : lastI w.nm ns vs with
   | none=>simp [lookI]
   | some m=>
    have:=lastI_range hv m hla
    simp [lookI,this]
  ·rw [if_neg hnm,if_neg hnm,if_neg hnm,kwsF_all,find_two hn]
   by_cases hall : (w.args.all (kwF F [] ns)) = true
   ·have hr : ∀ a ∈ w.args,wordR N F ns vs a = wordV N F (envLs ns vs) a ∧ 0 ≤ wordR N F ns vs a ∧ wordR N F ns vs a < N := fun a ha => by
     have:=ih a ha
     rw [if_pos (List.all_eq_true.1 hall a ha)] at this
     exact this
    rw [hall,Bool.and_true]
    cases hf : funAt w.nm F with
    | none=>
     have : ¬ (Option.any (fun f=>decide (f.ar = (w.args.length : Int))) (none : Option Fn) = true):=by simp
     rw [if_neg this]
     cases wordsR N F ns vs w.args (0,1) with
     | none=>rfl
     | some q=>rfl
    | some f=>
     by_cases har : f.ar = (w.args.length : Int)
     ·obtain ⟨h1,h2,h3,h4⟩ := tabF_zero (hF f (funAt_mem hf))
      rw [har,Int.toNat_natCast] at h3
      have hrun:=wordsR_run h0 h8 (F:=F) (ns:=ns) (vs:=vs) w.args (fun a ha=>(hr a ha).2) 0 0 (by omega) (by simp) (by omega)
      have hpr:=plR_range h0 (l:=w.args) fun a ha=>(hr a ha).2
      rw [Int.pow_zero,Int.one_mul,Int.zero_add] at hrun
      rw [hrun,plR_place fun a ha=>(hr a ha).1]
      rw [plR_place fun a ha=>(hr a ha).1] at hpr
      have hlt : (placeV N F (envLs ns vs) w.args).toNat < f.tab.length:=by omega
      rw [if_pos (by simp [har])]
      simp only [Option.filter_some,har,decide_true,if_true,Option.getD_some]
      refine ⟨trivial,?_⟩
      rw [List.getD_eq_getElem?_getD,List.getElem?_eq_getElem hlt]
      exact h4 _ (List.getElem_mem hlt)
     ·rw [if_neg (by simp [har])]
      cases wordsR N F ns vs w.args (0,1) with
      | none=>rfl
      | some q=>simp [Option.filter_some,har]
   ·have hex : ∃ a ∈ w.args,wordR N F ns vs a < 0 := by
     rw [Bool.not_eq_true,List.all_eq_false] at hall
     obtain ⟨a,ha,hk⟩:=hall
     refine ⟨a,ha,?_⟩
     have:=ih a ha
     rw [if_neg hk] at this
     omega
    rw [(wordsR_none w.args (0,1)).2 hex,if_neg]
    rw [Bool.and_eq_true]
    exact fun g=>hall g.2
theorem wordR_neg {N : Int} (h0 : 0 < N) (h8 : N ≤ 8) {F : List Fn} (hF : FunsOk N F) (hn : (F.map Fn.name).Nodup) {ns : List ByteArray} {vs : List Int} (hl : ns.length = vs.length) (hv : ∀ v ∈ vs,0 ≤ v ∧ v < N) (w : Wd) : (wordR N F ns vs w < 0) ↔ kwF F [] ns w = false:=by
 have:=wordR_spec h0 h8 hF hn hl hv w
 cases hk : kwF F [] ns w with
 | true=>rw [hk,if_pos rfl] at this;simp;omega
 | false=>rw [hk,if_neg (by simp)] at this;simp;omega
theorem wordR_val {N : Int} (h0 : 0 < N) (h8 : N ≤ 8) {F : List Fn} (hF : FunsOk N F) (hn : (F.map Fn.name).Nodup) {ns : List ByteArray} {vs : List Int} (hl : ns.length = vs.length) (hv : ∀ v ∈ vs,0 ≤ v ∧ v < N) (w : Wd) (hk : kwF F [] ns w = true) : wordR N F ns vs w = wordV N F (envLs ns vs) w ∧ 0 ≤ wordR N F ns vs w ∧ wordR N F ns vs w < N:=by
 have:=wordR_spec h0 h8 hF hn hl hv w
 rw [if_pos hk] at this
 exact this
end Go.Proofs.Ytfhakdonenhnbaa
namespace Go.Proofs.Ytfhakdonenhnbaa
open Go Go.Pv
theorem manyM_ok {p : Nat} {key : ByteArray} {c : Nat} {s s' : WS} (h : manyW p key c s = .ok s') : s'.1 = s.1:=by
 unfold manyW at h
 split at h
 ·split at h
  ·cases h;rfl
  ·cases h
 ·cases h;rfl
theorem foldM_ok : ∀ (l : List Nd) (s s' : WS),foldW l s = .ok s' → s.1 ≤ 200 → s.1 + l.length ≤ 200 ∧ ∀ x ∈ l,∃ o,chkN x = .ok o
 | [],s,s',_,h=>⟨h,fun x hx=>by cases hx⟩
 | x :: r,s,s',h,hs=>by
  rw [foldW] at h
  by_cases h2 : s.1 = 200
  ·rw [stepW_200 x s h2] at h;cases h
  rw [stepW_eq x s h2] at h
  have next : ∀ (s1 : WS) (o),chkN x = .ok o → s1.1 = s.1 + 1 → foldW r s1 = .ok s' → s.1 + (x :: r).length ≤ 200 ∧ ∀ y ∈ x :: r,∃ o,chkN y = .ok o:=by
   intro s1 o hc h1 h
   obtain ⟨g1,g2⟩:=foldM_ok r s1 s' h (by omega)
   refine ⟨by rw [List.length_cons];omega,fun y hy=>?_⟩
   rcases List.mem_cons.1 hy with rfl | hy
   ·exact ⟨o,hc⟩
   ·exact g2 y hy
  cases hc : chkN x with
  | error c=>rw [hc] at h;cases h
  | ok o=>
   rw [hc] at h
   cases o with
   | none=>exact next _ _ hc rfl h
   | some q=>
    obtain ⟨b,nm,c⟩:=q
    dsimp only at h
    cases hm : manyW s.1 (encW b nm) c (s.1 + 1,s.2) with
    | error e=>rw [hm] at h;cases h
    | ok s1=>
     rw [hm] at h
     exact next s1 _ hc (manyM_ok hm) h
theorem exprM_bad {e : Ex} {s : WS} {c : Int × Nat} {s' : WS} (h : exprW e s = .error (c,s')) : c.1 ≠ 0:=by
 rw [exprW_fold] at h
 have step : ∀ (x : Nd) (s : WS) (er : (Int × Nat) × WS),stepW x s = .error er → er.1.1 ≠ 0:=by
  intro x s er he
  by_cases h2 : s.1 = 200
  ·rw [stepW_200 x s h2] at he;cases he;intro g;cases g
  rw [stepW_eq x s h2] at he
  cases hc : chkN x with
  | error c=>
   rw [hc] at he
   cases he
   cases x with
   | w x=>
    rw [chkN,chkW] at hc
    split at hc
    ·cases hc
    split at hc
    ·split at hc
     ·cases hc;intro g;cases g
     ·cases hc
    ·cases hc;intro g;cases g
   | e x=>
    rw [chkN,chkX] at hc
    split at hc
    ·cases hc;intro g;cases g
    split at hc
    ·cases hc;intro g;cases g
    split at hc
    ·split at hc
     ·cases hc
     ·cases hc;intro g;cases g
    split at hc
    ·split at hc
     ·cases hc
     ·cases hc;intro g;cases g
    split at hc
    ·cases hc
    ·cases hc;intro g;cases g
  | ok o=>
   rw [hc] at he
   cases o with
   | none=>cases he
   | some q=>
    obtain ⟨b,nm,c⟩:=q
    dsimp only at he
    unfold manyW at he
    split at he
    ·split at he
     ·cases he
     ·cases he;intro g;cases g
    ·cases he
 have all : ∀ (l : List Nd) (s : WS) (er : (Int × Nat) × WS),foldW l s = .error er → er.1.1 ≠ 0:=by
  intro l
  induction l with
  | nil=>intro s er he;rw [foldW] at he;cases he
  | cons x r ih=>
   intro s er he
   rw [foldW] at he
   cases hs : stepW x s with
   | error e2=>rw [hs] at he;cases he;exact step x s _ hs
   | ok s1=>rw [hs] at he;exact ih s1 er he
 exact all _ _ _ h
theorem checkM_ok {e : Ex} (h : (checkX e).1 = 0) : (ndE e).length ≤ 200 ∧ ∀ x ∈ ndE e,∃ o,chkN x = .ok o:=by
 have h1 : ∃ s,foldW (ndE e) (0,[]) = .ok s:=by
  rw [← exprW_fold]
  unfold checkX at h
  cases hw : exprW e (0,[]) with
  | ok s=>exact ⟨s,rfl⟩
  | error er=>
   obtain ⟨er,s⟩:=er
   rw [hw] at h
   exact absurd h (exprM_bad hw)
 obtain ⟨s,h1⟩:=h1
 obtain ⟨h2,h3⟩:=foldM_ok _ _ _ h1 (by decide)
 exact ⟨by simpa using h2,h3⟩
theorem ndEs_mem {w : Ex} {x : Nd} : ∀ {l : List Ex},w ∈ l → x ∈ ndE w → x ∈ ndEs l
 | [],h,_=>by cases h
 | v :: r,h,hx=>by
  rw [ndEs,List.mem_append]
  rcases List.mem_cons.1 h with rfl | h
  ·exact .inl hx
  ·exact .inr (ndEs_mem h hx)
theorem kwF_ok {F : List Fn} {L : Ev} {B : List ByteArray} (w : Wd) (h : kwF F L B w = true) : wordOkF F w = true:=by
 induction w using Wd.ind with
 | h w ih=>
  rw [kwF_eq] at h
  rw [wordOkF_eq]
  by_cases hn : isNameB w.nm = true
  ·rw [hn,Bool.true_or]
  ·rw [if_neg hn,Bool.and_eq_true,kwsF_all] at h
   have hw : ∀ l : List Wd,(∀ a ∈ l,wordOkF F a = true) → wordsOkF F l = true:=by
    intro l
    induction l with
    | nil=>intro _;rfl
    | cons a r ihr=>intro hl;rw [wordsOkF,hl a (by simp),ihr fun b hb=>hl b (by simp [hb])];rfl
   rw [h.1,hw w.args fun a ha=>ih a ha (List.all_eq_true.1 h.2 a ha)]
   simp
theorem kwsF_ok {F : List Fn} {L : Ev} {B : List ByteArray} (l : List Wd) (h : kwsF F L B l = true) : wordsOkF F l = true:=by
 induction l with
 | nil=>rfl
 | cons a r ihr=>
  rw [kwsF,Bool.and_eq_true] at h
  rw [wordsOkF,kwF_ok a h.1,ihr h.2];rfl
theorem exsOk_all {F : List Fn} {P : List Pd} : ∀ l : List Ex,exsOk F P l = l.all (exOk F P)
 | []=>rfl
 | w :: r=>by rw [exsOk,exsOk_all r,List.all_cons]
theorem exK_ok {F : List Fn} {P : List Pd} {L : Ev} (e : Ex) : (∀ x ∈ ndE e,∃ o,chkN x = .ok o) → ∀ B,exK F P L e B = true → exOk F P e = true:=by
 induction e using Ex.ind with
 | h e ih=>
  intro hn B h
  obtain ⟨o,ho⟩:=hn (.e e) (by rw [ndE_eq];simp)
  rw [exK_eq,exsK_all,Bool.and_eq_true,Bool.and_eq_true] at h
  obtain ⟨⟨h1,h2⟩,h3⟩:=h
  rw [exOk_eq,exsOk_all,Bool.and_eq_true]
  refine ⟨?_,List.all_eq_true.2 fun q hq=>ih q hq (fun x hx=>hn x (by rw [ndE_eq];simp [ndEs_mem hq hx])) _ (List.all_eq_true.1 h3 q hq)⟩
  unfold exH
  rw [kwsF_ok _ h2,h1,Bool.true_and,Bool.and_true]
  apply decide_eq_true
  rw [chkN,chkX] at ho
  split at ho
  ·cases ho
  rename_i g1
  split at ho
  ·cases ho
  rename_i g2
  refine ⟨by omega,by omega,by omega,fun g=>?_⟩
  rw [g] at g2
  simp [wordsN] at g2
  omega
theorem deepF_nd (e : Ex) : deepF e ≤ (ndE e).length:=by
 induction e using Ex.ind with
 | h e ih=>
  rw [deepF_eq,ndE_eq,List.length_cons,List.length_append]
  have : ∀ l : List Ex,(∀ q ∈ l,deepF q ≤ (ndE q).length) → deepsF l ≤ (ndEs l).length:=by
   intro l
   induction l with
   | nil=>intro _;rw [deepsF];omega
   | cons a r ihr=>
    intro hl
    have h1:=hl a (by simp)
    have h2:=ihr fun b hb=>hl b (by simp [hb])
    rw [deepsF,ndEs,List.length_append]
    omega
  have:=this e.kids ih
  split <;> omega
theorem lastI_snoc {x n : ByteArray} {v : Int} : ∀ {ns : List ByteArray} {vs : List Int},ns.length = vs.length → lastI x (ns ++ [n]) (vs ++ [v]) = if x = n then some v else lastI x ns vs
 | [],[],_=>by
  rw [List.nil_append,List.nil_append,lastI]
  simp only [lastI,eq_comm]
 | [],v :: q,h=>by cases h
 | n :: r,[],h=>by cases h
 | a :: r,b :: q,h=>by
  rw [List.cons_append,List.cons_append,lastI,lastI_snoc (by simpa using h),lastI]
  by_cases hx : x = n
  ·rw [if_pos hx,if_pos hx]
  ·rw [if_neg hx,if_neg hx]
theorem envLs_snoc {n : ByteArray} {v : Int} {ns : List ByteArray} {vs : List Int} (h : ns.length = vs.length) : envLs (ns ++ [n]) (vs ++ [v]) = updE (envLs ns vs) n v:=by
 funext x
 unfold envLs updE
 rw [lastI_snoc h]
 split <;> rfl
theorem stcF_zero {S : Stc} (h : (stcF S).1 = 0) : 0 < S.n ∧ S.n ≤ 8 ∧ S.funs.length ≤ 10 ∧ S.preds.length ≤ 10 ∧ (S.funs.map Fn.name).Nodup ∧ (S.preds.map Pd.name).Nodup ∧ FunsOk S.n S.funs ∧ PredsOk S.n S.preds ∧ stcF S = (0,0):=by
 unfold stcF at h ⊢
 split at h
 ·exact absurd h (fun g=>by cases g)
 rename_i h1
 split at h
 ·rename_i h2;exact absurd h h2
 rename_i h2
 rw [if_neg h1,if_neg h2]
 have funs : ∀ (r pre : List Fn) (i : Nat),(funsF S.n pre r i).1 = 0 → (pre.map Fn.name).Nodup → ((pre ++ r).map Fn.name).Nodup ∧ ∀ f ∈ r,tabF S.n f = 0:=by
  intro r
  induction r with
  | nil=>intro pre i _ hp;rw [List.append_nil];exact ⟨hp,fun f hf=>by cases hf⟩
  | cons f r ih=>
   intro pre i hz hp
   rw [funsF] at hz
   split at hz
   ·exact absurd hz (fun g=>by cases g)
   rename_i g1
   split at hz
   ·rename_i g2;exact absurd hz g2
   rename_i g2
   have hno : (pre.any fun g=>decide (g.name = f.name)) = false:=by
    cases hb : (pre.any fun g=>decide (g.name = f.name)) with
    | true=>exact absurd (.inr hb) g1
    | false=>rfl
   obtain ⟨a1,a2⟩:=ih (pre ++ [f]) (i + 1) hz (by
    rw [List.map_append,List.nodup_append]
    refine ⟨hp,by simp,fun a ha b hb=>?_⟩
    obtain ⟨g,hg,rfl⟩:=List.mem_map.1 ha
    simp only [List.map_cons,List.map_nil,List.mem_singleton] at hb
    rw [hb]
    have:=List.any_eq_false.1 hno g hg
    simpa using this)
   refine ⟨by rw [List.append_assoc] at a1;exact a1,fun g hg=>?_⟩
   rcases List.mem_cons.1 hg with rfl | hg
   ·exact Decidable.not_not.1 g2
   ·exact a2 g hg
 have preds : ∀ (r pre : List Pd) (i : Nat),(predsF S.n pre r i).1 = 0 → (pre.map Pd.name).Nodup → ((pre ++ r).map Pd.name).Nodup ∧ (∀ f ∈ r,bitF S.n f = 0) ∧ predsF S.n pre r i = (0,0):=by
  intro r
  induction r with
  | nil=>intro pre i _ hp;rw [List.append_nil];exact ⟨hp,(fun f hf=>by cases hf),by rw [predsF]⟩
  | cons f r ih=>
   intro pre i hz hp
   rw [predsF] at hz ⊢
   split at hz
   ·exact absurd hz (fun g=>by cases g)
   rename_i g1
   split at hz
   ·rename_i g2;exact absurd hz g2
   rename_i g2
   rw [if_neg g1,if_neg g2]
   have hno : (pre.any fun g=>decide (g.name = f.name)) = false:=by
    cases hb : (pre.any fun g=>decide (g.name = f.name)) with
    | true=>exact absurd (.inr hb) g1
    | false=>rfl
   obtain ⟨a1,a2,a3⟩:=ih (pre ++ [f]) (i + 1) hz (by
    rw [List.map_append,List.nodup_append]
    refine ⟨hp,by simp,fun a ha b hb=>?_⟩
    obtain ⟨g,hg,rfl⟩:=List.mem_map.1 ha
    simp only [List.map_cons,List.map_nil,List.mem_singleton] at hb
    rw [hb]
    have:=List.any_eq_false.1 hno g hg
    simpa using this)
   refine ⟨by rw [List.append_assoc] at a1;exact a1,fun g hg=>?_,a3⟩
   rcases List.mem_cons.1 hg with rfl | hg
   ·exact Decidable.not_not.1 g2
   ·exact a2 g hg
 obtain ⟨f1,f2⟩:=funs S.funs [] 0 (Decidable.not_not.1 h2) (by simp)
 obtain ⟨p1,p2,p3⟩:=preds S.preds [] S.funs.length h (by simp)
 exact ⟨by omega,by omega,by omega,by omega,f1,p1,f2,p2,p3⟩
end Go.Proofs.Ytfhakdonenhnbaa
