import Derived.Test.YtfhakdonenhnbaaAMnA
set_option linter.unusedVariables false
set_option linter.unusedSimpArgs false
set_option maxRecDepth 100000
set_option maxHeartbeats 4000000
namespace Go.Proofs.Ytfhakdonenhnbaa
open Go Go.Pv
def at0 (l : List Nat) (i : Nat) : Nat:=l.getD i 0
def bitAt (p : Pd) (i : Nat) : Bool:=p.bits.getD i false
def eqsB (xs ys : List Nat) : Bool:=(List.range xs.length).all fun i=>(List.range xs.length).all fun k=>decide (at0 xs i = at0 xs k) == decide (at0 ys i = at0 ys k)
def predB (A B : Nat) (p q : Pd) (xs ys : List Nat) : Bool:=
 if p.ar = 0 then bitAt p 0 == bitAt q 0
 else if p.ar = 1 then (List.range xs.length).all fun k=>bitAt p (at0 xs k) == bitAt q (at0 ys k)
 else if p.ar = 2 then (List.range xs.length).all fun k=>(List.range xs.length).all fun m=>bitAt p (at0 xs k + at0 xs m * A) == bitAt q (at0 ys k + at0 ys m * B)
 else true
def predsB (A B : Nat) (P Q : List Pd) (xs ys : List Nat) : Bool:=(P.zip Q).all fun r=>predB A B r.1 r.2 xs ys
def fitB (A B : Nat) (P Q : List Pd) (xs ys : List Nat) : Bool:=eqsB xs ys && predsB A B P Q xs ys
def winF (A B : Nat) (P Q : List Pd) : Nat → List Nat → List Nat → Bool
 | 0,xs,ys=>fitB A B P Q xs ys
 | r + 1,xs,ys=>fitB A B P Q xs ys && (((List.range A).all fun x=>(List.range B).any fun y=>winF A B P Q r (xs ++ [x]) (ys ++ [y])) && (List.range B).all fun y=>(List.range A).any fun x=>winF A B P Q r (xs ++ [x]) (ys ++ [y]))
abbrev Mem:=List (List Int × Bool)
def padI (l : List Nat) : List Int:=(l ++ List.replicate (4 - l.length) 0).map fun (n : Nat)=>(n : Int)
def posC (xs ys : List Nat) : List Int:=(xs.length : Int) :: (padI xs ++ padI ys)
def keyC (xs ys : List Nat) (r : Nat) : List Int:=posC xs ys ++ (r : Int) :: List.replicate 8 0
def lkM (c : List Int) : Mem → Nat → Option (Nat × Bool)
 | [],_=>none
 | p :: es,i=>if c = p.1 then some (i,p.2) else lkM c es (i + 1)
def ptM (c : List Int) (b : Bool) (es : Mem) : Mem:=match lkM c es 0 with
 | some (j,_)=>es.set j (c,b)
 | none=>es ++ [(c,b)]
def anyS {σ : Type} (f : Nat → σ → Bool × σ) : List Nat → σ → Bool × σ
 | [],s=>(false,s)
 | y :: r,s=>if (f y s).1 = true then (true,(f y s).2) else anyS f r (f y s).2
def allS {σ : Type} (f : Nat → σ → Bool × σ) : List Nat → Bool → σ → Bool × σ
 | [],b,s=>(b,s)
 | x :: r,b,s=>if b = true then allS f r (f x s).1 (f x s).2 else allS f r false s
def winS (A B : Nat) (P Q : List Pd) : Nat → List Nat → List Nat → Mem → Bool × Mem
 | 0,xs,ys,es=>(fitB A B P Q xs ys,es)
 | r + 1,xs,ys,es => if fitB A B P Q xs ys = true then (match lkM (keyC xs ys (r + 1)) es 0 with
   | some (_,b)=>(b,es)
   | none=>
    let q1:=allS (fun x=>anyS (fun y=>winS A B P Q r (xs ++ [x]) (ys ++ [y])) (List.range B)) (List.range A) true es
    let q2:=allS (fun y=>anyS (fun x=>winS A B P Q r (xs ++ [x]) (ys ++ [y])) (List.range A)) (List.range B) q1.1 q1.2
    (q2.1,ptM (keyC xs ys (r + 1)) q2.1 q2.2))
  else (false,es)
def askC (A B : Nat) (P Q : List Pd) (c : List Int) : Bool:=
 winF A B P Q (c.getD 9 0).toNat (((c.drop 1).take (c.getD 0 0).toNat).map Int.toNat) (((c.drop 5).take (c.getD 0 0).toNat).map Int.toNat)
def MemOk (A B : Nat) (P Q : List Pd) (es : Mem) : Prop:=∀ p ∈ es,p.2 = askC A B P Q p.1
def KeysOk (es : Mem) : Prop:=∀ p ∈ es,p.1.length = 18 ∧ ∀ z ∈ p.1,0 ≤ z ∧ z ≤ 8
section
variable {A B : Nat} {P Q : List Pd}
theorem padI_len {l : List Nat} (h : l.length ≤ 4) : (padI l).length = 4:=by simp [padI];omega
theorem padI_get {l : List Nat} {i : Nat} (h : l.length ≤ 4) (hi : i < 4) : (padI l)[i]? = some ((at0 l i : Nat) : Int):=by
 unfold padI at0
 rw [List.getElem?_map,List.getElem?_append]
 split
 ·rename_i hl
  rw [List.getElem?_eq_getElem hl,List.getD_eq_getElem?_getD,List.getElem?_eq_getElem hl];rfl
 ·rename_i hl
  rw [List.getElem?_replicate,if_pos (by omega),List.getD_eq_getElem?_getD,List.getElem?_eq_none (by omega)];rfl
theorem padI_take {l : List Nat} : ((padI l).take l.length).map Int.toNat = l:=by
 unfold padI
 rw [← List.map_take,List.take_left' rfl,List.map_map]
 induction l with
 | nil=>rfl
 | cons a r ih=>simp [ih]
theorem keyC_len {xs ys : List Nat} {r : Nat} (hx : xs.length ≤ 4) (hy : ys.length ≤ 4) : (keyC xs ys r).length = 18:=by
 have h1:=padI_len hx
 have h2:=padI_len hy
 simp [keyC,posC,h1,h2]
theorem askC_key {xs ys : List Nat} {r : Nat} (hx : xs.length ≤ 4) (hy : ys.length = xs.length) : askC A B P Q (keyC xs ys r) = winF A B P Q r xs ys:=by
 have h1:=padI_len hx
 have h2:=padI_len (l:=ys) (by omega)
 have e9 : (keyC xs ys r).getD 9 0 = (r : Int):=by
  rw [List.getD_eq_getElem?_getD]
  unfold keyC posC
  rw [List.cons_append,List.getElem?_cons_succ,List.getElem?_append_right (by simp [h1,h2]),List.length_append,h1,h2];rfl
 have e0 : (keyC xs ys r).getD 0 0 = (xs.length : Int):=rfl
 unfold askC
 rw [e9,e0,Int.toNat_natCast,Int.toNat_natCast]
 congr 1
 ·unfold keyC posC
  rw [List.cons_append,List.drop_succ_cons,List.drop_zero,List.append_assoc,List.take_append_of_le_length (by omega),padI_take]
 ·unfold keyC posC
  rw [List.cons_append,List.drop_succ_cons,List.append_assoc,List.drop_left' h1,List.take_append_of_le_length (by omega),← hy,padI_take]
theorem lkM_mem {c : List Int} : ∀ {es : Mem} {i j : Nat} {b : Bool},lkM c es i = some (j,b) → (c,b) ∈ es ∧ i ≤ j ∧ es[j - i]? = some (c,b)
 | [],_,_,_,h=>by cases h
 | p :: es,i,j,b,h=>by
  unfold lkM at h
  split at h
  ·rename_i hc
   cases h
   subst hc
   simp
  ·obtain ⟨h1,h2,h3⟩ := lkM_mem h
   refine ⟨List.mem_cons_of_mem _ h1,by omega,?_⟩
   rw [show j - i = (j - (i + 1)) + 1 by omega,List.getElem?_cons_succ];exact h3
theorem ptM_mem {c : List Int} {b : Bool} {es : Mem} {p : List Int × Bool} (h : p ∈ ptM c b es) : p = (c,b) ∨ p ∈ es:=by
 unfold ptM at h
 split at h
 ·exact (List.mem_or_eq_of_mem_set h).symm
 ·rcases List.mem_append.1 h with h | h
  ·exact .inr h
  ·exact .inl (List.mem_singleton.1 h)
def Keeps (ok : Mem → Prop) (b : Bool) (q : Bool × Mem) : Prop:=q.1 = b ∧ ok q.2
theorem anyS_ok {ok : Mem → Prop} {f : Nat → Mem → Bool × Mem} {g : Nat → Bool} : ∀ {l : List Nat},(∀ y ∈ l,∀ es,ok es → Keeps ok (g y) (f y es)) → ∀ es,ok es → Keeps ok (l.any g) (anyS f l es)
 | [],_,es,h=>⟨rfl,h⟩
 | y :: r,hf,es,h=>by
  obtain ⟨h1,h2⟩:=hf y (by simp) es h
  unfold anyS
  rw [List.any_cons]
  cases hg : g y with
  | true=>rw [if_pos (h1.trans hg)];exact ⟨rfl,h2⟩
  | false=>rw [if_neg (by rw [h1,hg];simp),Bool.false_or];exact anyS_ok (fun z hz=>hf z (by simp [hz])) _ h2
theorem allS_ok {ok : Mem → Prop} {f : Nat → Mem → Bool × Mem} {g : Nat → Bool} : ∀ {l : List Nat},(∀ y ∈ l,∀ es,ok es → Keeps ok (g y) (f y es)) → ∀ b es,ok es → Keeps ok (b && l.all g) (allS f l b es)
 | [],_,b,es,h=>⟨(Bool.and_true b).symm,h⟩
 | y :: r,hf,b,es,h=>by
  unfold allS
  rw [List.all_cons]
  cases b with
  | true=>
   obtain ⟨h1,h2⟩:=hf y (by simp) es h
   rw [if_pos rfl,h1,Bool.true_and]
   exact allS_ok (fun z hz=>hf z (by simp [hz])) _ _ h2
  | false=>
   rw [if_neg (by simp),Bool.false_and]
   have:=allS_ok (l:=r) (fun z hz=>hf z (by simp [hz])) false es h
   rwa [Bool.false_and] at this
theorem winS_ok {ok : Mem → Prop} (hput : ∀ xs ys r es,xs.length ≤ 4 → ys.length = xs.length → (∀ x ∈ xs,x < A) → (∀ y ∈ ys,y < B) → r ≤ 4 → ok es → ok (ptM (keyC xs ys r) (winF A B P Q r xs ys) es)) (hget : ∀ es,ok es → MemOk A B P Q es) : ∀ (r : Nat) (xs ys : List Nat),xs.length + r ≤ 4 → ys.length = xs.length → (∀ x ∈ xs,x < A) → (∀ y ∈ ys,y < B) → ∀ es,ok es → Keeps ok (winF A B P Q r xs ys) (winS A B P Q r xs ys es)
 | 0,xs,ys,_,_,_,_,es,h=>⟨rfl,h⟩
 | r + 1,xs,ys,hx,hy,hA,hB,es,h=>by
  have hp:=hput xs ys (r + 1)
  have hk:=askC_key (A:=A) (B:=B) (P:=P) (Q:=Q) (xs:=xs) (ys:=ys) (r:=r + 1) (by omega) hy
  have hg:=hget es h
  have ih : ∀ x,x < A → ∀ y,y < B → ∀ es,ok es → Keeps ok (winF A B P Q r (xs ++ [x]) (ys ++ [y])) (winS A B P Q r (xs ++ [x]) (ys ++ [y]) es):=fun x hxA y hyB es h=>
   winS_ok hput hget r (xs ++ [x]) (ys ++ [y]) (by simp;omega) (by simp [hy]) (fun z hz=>by rcases List.mem_append.1 hz with h | h;exact hA z h;rw [List.mem_singleton.1 h];exact hxA) (fun z hz=>by rcases List.mem_append.1 hz with h | h;exact hB z h;rw [List.mem_singleton.1 h];exact hyB) es h
  obtain ⟨w,hw⟩ : ∃ w,winF A B P Q (r + 1) xs ys = w:=⟨_,rfl⟩
  have hw':=hw
  rw [winF] at hw
  rw [hw'] at hk hp ⊢
  unfold winS
  cases hf : fitB A B P Q xs ys with
  | false=>rw [if_neg (by simp)];rw [hf,Bool.false_and] at hw;exact ⟨hw,h⟩
  | true=>
   rw [if_pos rfl]
   rw [hf,Bool.true_and] at hw
   cases hl : lkM (keyC xs ys (r + 1)) es 0 with
   | some q=>
    obtain ⟨j,b⟩:=q
    have:=hg _ (lkM_mem hl).1
    exact ⟨by rw [← hk];exact this,h⟩
   | none=>
    dsimp only
    have a1:=allS_ok (ok:=ok) (l:=List.range A) (f:=fun x=>anyS (fun y=>winS A B P Q r (xs ++ [x]) (ys ++ [y])) (List.range B)) (g:=fun x=>(List.range B).any fun y=>winF A B P Q r (xs ++ [x]) (ys ++ [y]))
     (fun x hx es h=>anyS_ok (fun y hy es h=>ih x (List.mem_range.1 hx) y (List.mem_range.1 hy) es h) es h) true es h
    obtain ⟨a2,a3⟩:=a1
    generalize allS (fun x=>anyS (fun y=>winS A B P Q r (xs ++ [x]) (ys ++ [y])) (List.range B)) (List.range A) true es = q1 at *
    have b1:=allS_ok (ok:=ok) (l:=List.range B) (f:=fun y=>anyS (fun x=>winS A B P Q r (xs ++ [x]) (ys ++ [y])) (List.range A)) (g:=fun y=>(List.range A).any fun x=>winF A B P Q r (xs ++ [x]) (ys ++ [y]))
     (fun y hy es h=>anyS_ok (fun x hx es h=>ih x (List.mem_range.1 hx) y (List.mem_range.1 hy) es h) es h) q1.1 q1.2 a3
    obtain ⟨b2,b3⟩:=b1
    have b2:=b2.trans (show _ = w by rw [a2,Bool.true_and];exact hw)
    generalize allS (fun y=>anyS (fun x=>winS A B P Q r (xs ++ [x]) (ys ++ [y])) (List.range A)) (List.range B) q1.1 q1.2 = q2 at *
    refine ⟨b2,?_⟩
    dsimp only
    rw [b2]
    exact hp _ (by omega) hy hA hB (by omega) b3
end
def MemG (A B : Nat) (P Q : List Pd) (es : Mem) : Prop:=MemOk A B P Q es ∧ KeysOk es
theorem keyC_ok {A B : Nat} (hA : A ≤ 8) (hB : B ≤ 8) {xs ys : List Nat} {r : Nat} (hx : xs.length ≤ 4) (hy : ys.length = xs.length) (h1 : ∀ x ∈ xs,x < A) (h2 : ∀ y ∈ ys,y < B) (hr : r ≤ 4) : ∀ z ∈ keyC xs ys r,0 ≤ z ∧ z ≤ 8:=by
 intro z hz
 have pad : ∀ (l : List Nat),(∀ x ∈ l,x < 8) → z ∈ padI l → 0 ≤ z ∧ z ≤ 8:=by
  intro l hl h
  unfold padI at h
  obtain ⟨n,hn,rfl⟩:=List.mem_map.1 h
  rcases List.mem_append.1 hn with h | h
  ·have:=hl n h;omega
  ·have:=List.eq_of_mem_replicate h;omega
 unfold keyC posC at hz
 rcases List.mem_append.1 hz with h | h
 ·rcases List.mem_cons.1 h with rfl | h
  ·omega
  ·rcases List.mem_append.1 h with h | h
   ·exact pad _ (fun x hx=>by have:=h1 x hx;omega) h
   ·exact pad _ (fun x hx=>by have:=h2 x hx;omega) h
 ·rcases List.mem_cons.1 h with rfl | h
  ·omega
  ·have:=List.eq_of_mem_replicate h;omega
theorem winS_spec {A B : Nat} {P Q : List Pd} (hA : A ≤ 8) (hB : B ≤ 8) (r : Nat) (xs ys : List Nat) (hx : xs.length + r ≤ 4) (hy : ys.length = xs.length) (h1 : ∀ x ∈ xs,x < A) (h2 : ∀ y ∈ ys,y < B) (es : Mem) (h : MemG A B P Q es) :
  (winS A B P Q r xs ys es).1 = winF A B P Q r xs ys ∧ MemG A B P Q (winS A B P Q r xs ys es).2:=by
 refine winS_ok (ok:=MemG A B P Q) (fun xs ys r es hx hy h1 h2 hr h=>⟨fun p hp=>?_,fun p hp=>?_⟩) (fun es h=>h.1) r xs ys hx hy h1 h2 es h
 ·rcases ptM_mem hp with rfl | hp
  ·exact (askC_key hx hy).symm
  ·exact h.1 p hp
 ·rcases ptM_mem hp with rfl | hp
  ·exact ⟨keyC_len hx (by omega),keyC_ok hA hB hx hy h1 h2 hr⟩
  ·exact h.2 p hp
end Go.Proofs.Ytfhakdonenhnbaa
