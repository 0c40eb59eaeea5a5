import Derived.Test.YtfhakdonenhnbaaCGaQ
import Derived.Test.YtfhakdonenhnbaaCMnL
set_option linter.unusedVariables false
set_option linter.unusedSimpArgs false
set_option maxRecDepth 100000
set_option maxHeartbeats 4000000
namespace Go.Proofs.Ytfhakdonenhnbaa
open Go Go.Pv
def RelE (Bn : List ByteArray) (xs ys : List Nat) (E1 E2 : ByteArray → Int) : Prop:=∀ z ∈ Bn,∃ i,i < xs.length ∧ E1 z = (at0 xs i : Int) ∧ E2 z = (at0 ys i : Int)
theorem at0_left {xs : List Nat} {x i : Nat} (h : i < xs.length) : at0 (xs ++ [x]) i = at0 xs i:=by
 unfold at0
 rw [List.getD_eq_getElem?_getD,List.getD_eq_getElem?_getD,List.getElem?_append_left h]
theorem at0_last {xs : List Nat} {x : Nat} : at0 (xs ++ [x]) xs.length = x:=by
 unfold at0
 rw [List.getD_eq_getElem?_getD,List.getElem?_append_right (Nat.le_refl _),Nat.sub_self];rfl
theorem relE_upd {Bn : List ByteArray} {xs ys : List Nat} {E1 E2 : ByteArray → Int} (hl : ys.length = xs.length) (h : RelE Bn xs ys E1 E2) (nm : ByteArray) (x y : Nat) : RelE (Bn ++ [nm]) (xs ++ [x]) (ys ++ [y]) (updE E1 nm (x : Int)) (updE E2 nm (y : Int)):=by
 intro z hz
 by_cases hzn : z = nm
 ·subst hzn
  refine ⟨xs.length,by simp,?_,?_⟩
  ·rw [at0_last];simp [updE]
  ·rw [← hl,at0_last];simp [updE]
 ·rcases List.mem_append.1 hz with hz | hz
  ·obtain ⟨i,hi,h1,h2⟩ := h z hz
   refine ⟨i,by simp;omega,?_,?_⟩
   ·rw [at0_left hi,← h1];simp [updE,hzn]
   ·rw [at0_left (by omega),← h2];simp [updE,hzn]
  ·exact absurd (List.mem_singleton.1 hz) hzn
theorem predAt_pair {nm : ByteArray} : ∀ {P Q : List Pd},P.map Pd.name = Q.map Pd.name → SameAr P Q → (predAt nm P = none ∧ predAt nm Q = none) ∨ ∃ p q,predAt nm P = some p ∧ predAt nm Q = some q ∧ (p,q) ∈ P.zip Q ∧ p.ar = q.ar
 | [],[],_,_=>.inl ⟨rfl,rfl⟩
 | [],_ :: _,h,_=>by cases h
 | _ :: _,[],h,_=>by cases h
 | p :: P,q :: Q,h,g=>by
  simp only [SameAr,List.map_cons,List.cons.injEq] at h g
  unfold predAt
  rw [List.find?_cons,List.find?_cons,← h.1]
  by_cases hn : nm = p.name
  ·rw [decide_eq_true hn]
   exact .inr ⟨p,q,rfl,rfl,by simp,g.1⟩
  ·rw [decide_eq_false hn]
   rcases predAt_pair (nm:=nm) h.2 g.2 with ⟨h1,h2⟩ | ⟨p',q',h1,h2,h3,h4⟩
   ·exact .inl ⟨h1,h2⟩
   ·exact .inr ⟨p',q',h1,h2,by simp [h3],h4⟩
theorem exK_same {F : List Fn} {P Q : List Pd} {L : Ev} (hn : P.map Pd.name = Q.map Pd.name) (ha : SameAr P Q) (e : Ex) : ∀ B,exK F P L e B = exK F Q L e B:=by
 induction e using Ex.ind with
 | h e ih=>
  intro B
  rw [exK_eq,exK_eq,exsK_all,exsK_all]
  have h1 : ((predAt e.nm P).any fun p=>decide (p.ar = (e.words.length : Int))) = ((predAt e.nm Q).any fun p=>decide (p.ar = (e.words.length : Int))):=by
   rcases predAt_pair (nm:=e.nm) hn ha with ⟨h1,h2⟩ | ⟨p,q,h1,h2,_,h4⟩
   ·rw [h1,h2]
   ·rw [h1,h2];simp [h4]
  rw [h1]
  congr 1
  rw [Bool.eq_iff_iff,List.all_eq_true,List.all_eq_true]
  exact ⟨fun h q hq=>by rw [← ih q hq];exact h q hq,fun h q hq=>by rw [ih q hq];exact h q hq⟩
theorem getD_same {α : Type} {f g : Ex → α} {l : List Ex} {R : α → α → Prop} {d : α} (hd : R d d) (h : ∀ q ∈ l,R (f q) (g q)) (j : Nat) : R ((l.map f).getD j d) ((l.map g).getD j d):=by
 rw [List.getD_eq_getElem?_getD,List.getD_eq_getElem?_getD,List.getElem?_map,List.getElem?_map]
 by_cases hj : j < l.length
 ·rw [List.getElem?_eq_getElem hj];exact h _ (List.getElem_mem hj)
 ·rw [List.getElem?_eq_none (by omega)];exact hd
section
variable {A B : Nat} {P Q : List Pd}
theorem predsB_mem {xs ys : List Nat} (h : predsB A B P Q xs ys = true) {p q : Pd} (hm : (p,q) ∈ P.zip Q) : predB A B p q xs ys = true:=List.all_eq_true.1 h _ hm
theorem word_var {Bn : List ByteArray} {w : Wd} (h : kwF [] [] Bn w = true) : isNameB w.nm = true ∧ w.nm ∈ Bn:=by
 rw [kwF_eq] at h
 by_cases hn : isNameB w.nm = true
 ·rw [if_pos hn] at h
  refine ⟨hn,?_⟩
  have h : (false || Bn.any fun y=>decide (w.nm = y)) = true:=h
  rw [Bool.false_or,List.any_eq_true] at h
  obtain ⟨y,hy,e⟩:=h
  rw [of_decide_eq_true e];exact hy
 ·rw [if_neg hn] at h
  exact absurd h (by simp [funAt])
theorem fraisse (ha : SameAr P Q) (hn : P.map Pd.name = Q.map Pd.name) (h2 : ∀ p ∈ P,0 ≤ p.ar ∧ p.ar ≤ 2) (e : Ex) : ∀ (r : Nat) (xs ys : List Nat) (Bn : List ByteArray) (E1 E2 : ByteArray → Int),ys.length = xs.length → winF A B P Q r xs ys = true → deepF e ≤ r →
  exK [] P [] e Bn = true → exOk [] P e = true → RelE Bn xs ys E1 E2 → valV (A : Int) [] P e E1 = valV (B : Int) [] Q e E2:=by
 induction e using Ex.ind with
 | h e ih=>
  intro r xs ys Bn E1 E2 hl hw hd hk hok hE
  rw [exK_eq,exsK_all,kwsF_all,Bool.and_eq_true,Bool.and_eq_true] at hk
  obtain ⟨⟨hk1,hk2⟩,hk3⟩:=hk
  have hk2:=List.all_eq_true.1 hk2
  have hk3:=List.all_eq_true.1 hk3
  rw [exOk_eq,Bool.and_eq_true,exsOk_all] at hok
  have hks:=List.all_eq_true.1 hok.2
  have hh:=hok.1
  unfold exH at hh
  rw [Bool.and_eq_true,Bool.and_eq_true] at hh
  obtain ⟨j1,j10,hkc,hw2⟩:=of_decide_eq_true hh.1.2
  have hfit:=fitB_iff.1 (winF_fit hw)
  have he:=eqsB_iff.1 hfit.1
  have wv : ∀ w ∈ e.words,∃ i,i < xs.length ∧ wordV (A : Int) [] E1 w = (at0 xs i : Int) ∧ wordV (B : Int) [] E2 w = (at0 ys i : Int):=by
   intro w hw
   obtain ⟨n1,n2⟩:=word_var (hk2 w hw)
   obtain ⟨i,hi,e1,e2⟩:=hE _ n2
   refine ⟨i,hi,?_,?_⟩
   ·rw [wordV_eq,if_pos n1,e1]
   ·rw [wordV_eq,if_pos n1,e2]
  rw [deepF_eq] at hd
  rw [valV_eq,valV_eq]
  -- the kids,where nothing is bound
  have kid : e.k ≠ 9 → e.k ≠ 10 → ∀ j,((e.kids.map (valV (A : Int) [] P)).getD j fun _=>false) E1 = ((e.kids.map (valV (B : Int) [] Q)).getD j fun _=>false) E2:=by
   intro n9 n10 j
   refine getD_same (R:=fun (f g : (ByteArray → Int) → Bool)=>f E1 = g E2) rfl (fun q hq=>?_) j
   have hB:=hk3 q hq
   rw [bindB,if_neg (fun g=>g.elim n9 n10)] at hB
   exact ih q hq r xs ys Bn E1 E2 hl hw (by have:=deeps_mem q hq;omega) hB (hks q hq) hE
  unfold valH
  by_cases k1 : e.k = 1
  ·rw [if_pos k1,if_pos k1]
   rw [decide_eq_true k1,Bool.not_true,Bool.false_or] at hk1
   rcases predAt_pair (nm:=e.nm) hn ha with ⟨h1,_⟩ | ⟨p,q,h1,h2',h3,h4⟩
   ·rw [h1] at hk1;exact absurd hk1 (by simp)
   rw [h1] at hk1
   rw [h1,h2',Option.getD_some,Option.getD_some]
   have har : p.ar = (e.words.length : Int):=by simpa using hk1
   have hpb:=predB_iff.1 (predsB_mem hfit.2 h3)
   have hp2:=(h2 p (List.of_mem_zip h3).1).2
   show bitAt p _ = bitAt q _
   match hws : e.words,har,wv with
   | [],har,wv=>exact hpb.1 har
   | [a],har,wv=>
    obtain ⟨i,hi,e1,e2⟩:=wv a (by simp)
    rw [placeV,placeV,placeV,placeV,e1,e2]
    simp only [Int.zero_mul,Int.zero_add,Int.toNat_natCast]
    exact hpb.2.1 har i hi
   | [a,b],har,wv=>
    obtain ⟨i,hi,e1,e2⟩:=wv a (by simp)
    obtain ⟨m,hm,e3,e4⟩:=wv b (by simp)
    rw [placeV,placeV,placeV,placeV,placeV,placeV,e1,e2,e3,e4]
    simp only [Int.zero_mul,Int.zero_add]
    rw [← Int.natCast_mul,← Int.natCast_mul,← Int.natCast_add,← Int.natCast_add,Int.toNat_natCast,Int.toNat_natCast,Nat.add_comm,Nat.add_comm (at0 ys m * B)]
    exact hpb.2.2 har i m hi hm
   | a :: b :: c :: l,har,wv=>exact absurd hp2 (by rw [har];simp only [List.length_cons];omega)
  rw [if_neg k1,if_neg k1]
  by_cases k2 : e.k = 2
  ·rw [if_pos k2,if_pos k2]
   obtain ⟨a,b,hab⟩ : ∃ a b,e.words = [a,b]:=by
    match h : e.words,hw2 k2 with
    | [a,b],_=>exact ⟨a,b,rfl⟩
   rw [hab] at wv ⊢
   obtain ⟨i,hi,e1,e2⟩:=wv a (by simp)
   obtain ⟨m,hm,e3,e4⟩:=wv b (by simp)
   simp only [List.getD_cons_zero,List.getD_cons_succ]
   rw [e1,e2,e3,e4,decide_eq_decide]
   have:=he i m hi hm
   omega
  rw [if_neg k2,if_neg k2]
  by_cases k3 : e.k = 3
  ·rw [if_pos k3,if_pos k3]
  rw [if_neg k3,if_neg k3]
  by_cases k5 : e.k = 5
  ·rw [if_pos k5,if_pos k5,kid (by omega) (by omega) 0]
  rw [if_neg k5,if_neg k5]
  by_cases k6 : e.k = 6
  ·rw [if_pos k6,if_pos k6,kid (by omega) (by omega) 0,kid (by omega) (by omega) 1]
  rw [if_neg k6,if_neg k6]
  by_cases k7 : e.k = 7
  ·rw [if_pos k7,if_pos k7,kid (by omega) (by omega) 0,kid (by omega) (by omega) 1]
  rw [if_neg k7,if_neg k7]
  by_cases k8 : e.k = 8
  ·rw [if_pos k8,if_pos k8,kid (by omega) (by omega) 0,kid (by omega) (by omega) 1]
  rw [if_neg k8,if_neg k8]
  by_cases kq : e.k = 9 ∨ e.k = 10
  ·rw [if_pos kq] at hd
   cases r with
   | zero=>omega
   | succ r=>
   obtain ⟨_,w1,w2⟩:=winF_iff.1 hw
   have step : ∀ x y : Nat,winF A B P Q r (xs ++ [x]) (ys ++ [y]) = true → ((e.kids.map (valV (A : Int) [] P)).getD 0 fun _=>false) (updE E1 e.nm (x : Int)) = ((e.kids.map (valV (B : Int) [] Q)).getD 0 fun _=>false) (updE E2 e.nm (y : Int)):=by
    intro x y hxy
    refine getD_same (R:=fun (f g : (ByteArray → Int) → Bool)=>f (updE E1 e.nm (x : Int)) = g (updE E2 e.nm (y : Int))) rfl (fun q hq=>?_) 0
    have hB:=hk3 q hq
    rw [bindB,if_pos kq] at hB
    exact ih q hq r (xs ++ [x]) (ys ++ [y]) (Bn ++ [e.nm]) _ _ (by simp [hl]) hxy (by have:=deeps_mem q hq;omega) hB (hks q hq) (relE_upd hl hE _ x y)
   rw [Int.toNat_natCast,Int.toNat_natCast]
   rcases kq with k9 | k10
   ·rw [if_pos k9,if_pos k9,Bool.eq_iff_iff,List.all_eq_true,List.all_eq_true]
    constructor
    ·intro h y hy
     obtain ⟨x,hx,hxy⟩:=w2 y (List.mem_range.1 hy)
     rw [← step x y hxy];exact h x (List.mem_range.2 hx)
    ·intro h x hx
     obtain ⟨y,hy,hxy⟩:=w1 x (List.mem_range.1 hx)
     rw [step x y hxy];exact h y (List.mem_range.2 hy)
   ·rw [if_neg (show ¬ e.k = 9 by omega),if_neg (show ¬ e.k = 9 by omega),if_pos k10,if_pos k10,Bool.eq_iff_iff,List.any_eq_true,List.any_eq_true]
    constructor
    ·rintro ⟨x,hx,h⟩
     obtain ⟨y,hy,hxy⟩:=w1 x (List.mem_range.1 hx)
     exact ⟨y,List.mem_range.2 hy,by rw [← step x y hxy];exact h⟩
    ·rintro ⟨y,hy,h⟩
     obtain ⟨x,hx,hxy⟩:=w2 y (List.mem_range.1 hy)
     exact ⟨x,List.mem_range.2 hx,by rw [step x y hxy];exact h⟩
  rw [if_neg (fun g=>kq (.inl g)),if_neg (fun g=>kq (.inl g)),if_neg (fun g=>kq (.inr g)),if_neg (fun g=>kq (.inr g))]
end
end Go.Proofs.Ytfhakdonenhnbaa
