import Derived.Test.YtfhakdonenhnbaaBGaF
import Derived.Test.YtfhakdonenhnbaaBGaP
set_option linter.unusedVariables false
set_option linter.unusedSimpArgs false
set_option maxRecDepth 100000
set_option maxHeartbeats 4000000
namespace Go.Proofs.Ytfhakdonenhnbaa
open Go Go.Pv
def bitsF (n u v : Nat) : List Bool:=(List.range (n * n)).map fun k=>decide (k % n < k / n ∧ (k % n < u ∨ k % n = u ∧ k / n < v))
theorem bitsF_len {n u v : Nat} : (bitsF n u v).length = n * n:=by simp [bitsF]
theorem bitsF_get {n u v k : Nat} (h : k < n * n) : (bitsF n u v)[k]? = some (decide (k % n < k / n ∧ (k % n < u ∨ k % n = u ∧ k / n < v))):=by
 unfold bitsF
 rw [List.getElem?_map,List.getElem?_range h];rfl
theorem place_mod {n u v : Nat} (h : u < n) : (u + n * v) % n = u ∧ (u + n * v) / n = v:=by
 constructor
 ·rw [Nat.add_mul_mod_self_left,Nat.mod_eq_of_lt h]
 ·rw [Nat.add_mul_div_left _ _ (by omega),Nat.div_eq_of_lt h,Nat.zero_add]
theorem place_lt {n u v : Nat} (hu : u < n) (hv : v < n) : u + n * v < n * n:=by
 have : n * (v + 1) ≤ n * n:=Nat.mul_le_mul_left n hv
 rw [Nat.mul_add,Nat.mul_one] at this
 omega
theorem bitsF_set {n u v : Nat} (hu : u < v) (hv : v < n) : (bitsF n u v).set (u + n * v) true = bitsF n u (v + 1):=by
 apply List.ext_getElem?
 intro k
 rw [List.getElem?_set]
 obtain ⟨m1,m2⟩:=place_mod (v:=v) (show u < n by omega)
 have hl:=place_lt (show u < n by omega) hv
 split
 ·rename_i hk
  subst hk
  rw [if_pos (by rw [bitsF_len];exact hl),bitsF_get hl,m1,m2]
  congr 1
  rw [eq_comm,decide_eq_true_eq]
  omega
 ·rename_i hk
  by_cases hkl : k < n * n
  ·rw [bitsF_get hkl,bitsF_get hkl]
   congr 1
   rw [decide_eq_decide]
   have hne : ¬ (k % n = u ∧ k / n = v):=by
    rintro ⟨e1,e2⟩
    apply hk
    have:=Nat.mod_add_div k n
    rw [e1,e2] at this
    exact this
   omega
  ·rw [List.getElem?_eq_none (by rw [bitsF_len];omega),List.getElem?_eq_none (by rw [bitsF_len];omega)]
theorem bitsF_next {n u : Nat} : bitsF n u n = bitsF n (u + 1) (u + 2):=by
 unfold bitsF
 apply List.map_congr_left
 intro k hk
 rw [decide_eq_decide]
 have hn:=List.mem_range.1 hk
 have : k / n < n:=Nat.div_lt_of_lt_mul hn
 omega
theorem bitsF_zero {n : Nat} : bitsF n 0 1 = List.replicate (n * n) false:=by
 apply List.ext_getElem?
 intro k
 by_cases hkl : k < n * n
 ·rw [bitsF_get hkl,List.getElem?_replicate,if_pos hkl]
  congr 1
  rw [decide_eq_false_iff_not]
  omega
 ·rw [List.getElem?_eq_none (by rw [bitsF_len];omega),List.getElem?_eq_none (by simp;omega)]
def ordF (n : Nat) : Stc:=⟨(n : Int),[],[⟨⟨#[82]⟩,2,bitsF n n (n + 1)⟩]⟩
def x13_T2 : XC:=.seq (.reg [⟨some 31,.move (.tmp 0),none⟩,⟨some 32,.load 64 (.tmp 3),none⟩,⟨some 33,.buildSlice 23 1 #[(0,.tmp 32)],none⟩,⟨some 34,.build 25 #[(0,.tmp 31),(2,.tmp 33)],none⟩,⟨none,.store 25 (.tmp 2) (.tmp 34),none⟩]) .ret
def x13_L2 : XC:=.seq (.seq (.reg [⟨some 18,.move (.tmp 5),none⟩,⟨some 19,.move (.tmp 0),none⟩,⟨some 20,.binOp .lss 3 (.tmp 18) (.tmp 19) 3,none⟩]) (.cond (.tmp 20) .skip (.exit 2))) (.seq (.block 3 (.reg [⟨some 23,.fieldAddr 64 (.tmp 3) 2,none⟩,⟨some 24,.load 62 (.tmp 23),none⟩,⟨some 25,.move (.tmp 4),none⟩,⟨some 26,.move (.tmp 0),none⟩,⟨some 27,.move (.tmp 5),none⟩,⟨some 28,.binOp .mul 3 (.tmp 26) (.tmp 27) 3,none⟩,⟨some 29,.binOp .add 3 (.tmp 25) (.tmp 28) 3,none⟩,⟨some 30,.indexAddr 62 (.tmp 24) (.tmp 29),none⟩,⟨none,.store 4 (.tmp 30) (.const (.bool true)),none⟩])) (.reg [⟨some 21,.move (.tmp 5),none⟩,⟨some 22,.binOp .add 3 (.tmp 21) (.const (.int .i64 1)) 3,none⟩,⟨some 5,.assign (.tmp 22),none⟩]))
def x13_L0 : XC:=.seq (.seq (.reg [⟨some 11,.move (.tmp 4),none⟩,⟨some 12,.move (.tmp 0),none⟩,⟨some 13,.binOp .lss 3 (.tmp 11) (.tmp 12) 3,none⟩]) (.cond (.tmp 13) .skip (.exit 0))) (.seq (.block 1 (.seq (.reg [⟨some 16,.move (.tmp 4),none⟩,⟨some 17,.binOp .add 3 (.tmp 16) (.const (.int .i64 1)) 3,none⟩,⟨some 5,.assign (.tmp 17),none⟩]) (.bloop 2 x13_L2))) (.reg [⟨some 14,.move (.tmp 4),none⟩,⟨some 15,.binOp .add 3 (.tmp 14) (.const (.int .i64 1)) 3,none⟩,⟨some 4,.assign (.tmp 15),none⟩]))
def x13 : XC:=.seq (.reg [⟨some 2,.alloc 25,none⟩]) (.seq (.reg [⟨some 6,.move (.tmp 0),none⟩,⟨some 7,.move (.tmp 0),none⟩,⟨some 8,.binOp .mul 3 (.tmp 6) (.tmp 7) 3,none⟩,⟨some 9,.makeSlice 62 (.tmp 8) (.tmp 8),none⟩,⟨some 10,.build 64 #[(0,.const (.string ⟨#[82]⟩)),(1,.const (.int .i64 2)),(2,.tmp 9)],none⟩,⟨some 3,.alloc 64,none⟩,⟨none,.store 64 (.tmp 3) (.tmp 10),none⟩]) (.seq (.seq (.reg [⟨some 4,.assign (.const (.int .i64 0)),none⟩]) (.bloop 0 x13_L0)) (x13_T2)))
@[simp] theorem x13_s {C e s K} : type_of% (@X_at C e s K _ _ x13_T2.eq_1) ∧ type_of% (@X_at C e s K _ _ x13_L2.eq_1) ∧ type_of% (@X_at C e s K _ _ x13_L0.eq_1) ∧ type_of% (@X_at C e s K _ _ x13.eq_1):=⟨X_at x13_T2.eq_1,X_at x13_L2.eq_1,X_at x13_L0.eq_1,X_at x13.eq_1⟩
def an13 : Ann:=⟨[],[(2,[],[0,2,3,4,5],[0,2,3,4]),(0,[],[0,2,3,4],[0,2,3])],[]⟩
@[simp] theorem an13_a : an13.loopOf 2 = ([],[0,2,3,4,5],[0,2,3,4]) ∧ an13.loopOf 0 = ([],[0,2,3,4],[0,2,3]):=⟨rfl,rfl⟩
theorem fi13 : FI Try.prog 13 (cxA an13) x13 [.cell 2 25] Try.f13:=fiA Try.func13 mixed
theorem OrderOf_ref (n : Nat) (h1 : 1 ≤ n) (h8 : n ≤ 8) : CallOK Try.prog 13 [.int .i64 (n : Int)] [] (.agg (stc (ordF n))) []:=by
 have hnn : (n : Int) * (n : Int) = ((n * n : Nat) : Int):=by rw [Int.natCast_mul]
 have hle : n * n ≤ 64:=Nat.mul_le_mul h8 h8
 generalize hm : n * n = m at hnn hle
 refine fi13.os ?_
 (refine Sg.h ?_;try repeat' ((with_reducible first|refine brA ?_|refine brE fun _=>?_|refine spl ⟨?_,?_⟩<;>intro _)<;>((try simp -implicitDefEqProofs [hnn]);(try simp -implicitDefEqProofs(disch:=first|assumption|(try simp only[lens]);omega -splitDisjunctions) [hnn]))))
 have hz : List.replicate m [PV.bool false] = (bitsF n 0 1).map boolRow:=by rw [bitsF_zero,hm];simp
 rw [hz]
 refine W_of fun Q0 hQ0=>?_
 have main : ∀ k u,u + k = n → Q0 [(0,.int .i64 (n : Int)),(2,.ptr 0 0 0),(3,.ptr 1 0 0),(4,.int .i64 (u : Int))] [.rows 3 [[.int .i64 0,.nilsl,.nilsl]],.rows 3 [[.str ⟨#[82]⟩,.int .i64 2,.sl 2 0 m]],.rows 1 ((bitsF n u (u + 1)).map boolRow)]:=by
  intro k
  induction k with
  | zero=>
   intro u hu
   obtain rfl : u = n:=by omega
   have hbl:=bitsF_len (n:=u) (u:=u) (v:=u + 1)
   rw [hm] at hbl
   have ht : ((bitsF u u (u + 1)).map boolRow).take m = (bitsF u u (u + 1)).map boolRow:=List.take_of_length_le (by simp [hbl])
   apply hQ0
   clear hQ0
   unfold ordF stc
   (refine Sg.h ?_;try repeat' ((with_reducible first|refine brA ?_|refine brE fun _=>?_|refine spl ⟨?_,?_⟩<;>intro _)<;>((try simp -implicitDefEqProofs [hbl,ht,pdRow]);(try simp -implicitDefEqProofs(disch:=first|assumption|(try simp only[lens]);omega -splitDisjunctions) [hbl,ht,pdRow]))))
  | succ k ih=>
   intro u hu
   have ih:=ih (u + 1) (by omega)
   have hu' : (u : Int) < (n : Int):=by omega
   apply hQ0
   clear hQ0
   (refine Sg.h ?_;try repeat' ((with_reducible first|refine brA ?_|refine brE fun _=>?_|refine spl ⟨?_,?_⟩<;>intro _)<;>((try simp -implicitDefEqProofs [hu']);(try simp -implicitDefEqProofs(disch:=first|assumption|(try simp only[lens]);omega -splitDisjunctions) [hu']))))
   refine W_of fun Q2 hQ2=>?_
   have main2 : ∀ k v,v + k = n → u < v → Q2 [(0,.int .i64 (n : Int)),(2,.ptr 0 0 0),(3,.ptr 1 0 0),(4,.int .i64 (u : Int)),(5,.int .i64 (v : Int))] [.rows 3 [[.int .i64 0,.nilsl,.nilsl]],.rows 3 [[.str ⟨#[82]⟩,.int .i64 2,.sl 2 0 m]],.rows 1 ((bitsF n u v).map boolRow)]:=by
    intro k
    induction k with
    | zero=>
     intro v hv huv
     obtain rfl : v = n:=by omega
     rw [bitsF_next]
     apply hQ2
     clear hQ2
     (refine Sg.h ?_;try repeat' ((with_reducible first|refine brA ?_|refine brE fun _=>?_|refine spl ⟨?_,?_⟩<;>intro _)<;>((try simp -implicitDefEqProofs);(try simp -implicitDefEqProofs(disch:=first|assumption|(try simp only[lens]);omega -splitDisjunctions)))))
     all_goals first|exact ih|(refine at2 ih ?_ ?_<;>simp;done)|(exfalso;first|omega|(simp_all;done)|(simp_all;omega))
    | succ k ih2=>
     intro v hv huv
     have ih2:=ih2 (v + 1) (by omega) (by omega)
     have hv' : (v : Int) < (n : Int):=by omega
     have hd:=place_lt (show u < n by omega) (show v < n by omega)
     have hset:=bitsF_set huv (show v < n by omega)
     have hbl:=bitsF_len (n:=n) (u:=u) (v:=v)
     rw [hm] at hd hbl
     have e1 : (n : Int) * (v : Int) = ((n * v : Nat) : Int):=by rw [Int.natCast_mul]
     have e2 : (u : Int) + ((n * v : Nat) : Int) = ((u + n * v : Nat) : Int):=by omega
     generalize u + n * v = d at *
     generalize n * v = c at *
     have hs2 : ((bitsF n u v).map boolRow).set d [PV.bool true] = (bitsF n u (v + 1)).map boolRow:=by rw [← hset,List.map_set];rfl
     have hd' : (d : Int) < (m : Int):=by omega
     apply hQ2
     clear hQ2
     (refine Sg.h ?_;try repeat' ((with_reducible first|refine brA ?_|refine brE fun _=>?_|refine spl ⟨?_,?_⟩<;>intro _)<;>((try simp -implicitDefEqProofs [hv',hd,hd',e1,e2,hbl,hs2]);(try simp -implicitDefEqProofs(disch:=first|assumption|(try simp only[lens]);omega -splitDisjunctions) [hv',hd,hd',e1,e2,hbl,hs2]))))
     all_goals first|exact ih2|(refine at2 ih2 ?_ ?_<;>simp;done)|(exfalso;first|omega|(simp_all;done)|(simp_all;omega))
   all_goals first|exact main2 (n - (u + 1)) (u + 1) (by omega) (by omega)|(refine at2 main2 (n - (u + 1)) (u + 1) (by omega) (by omega) ?_ ?_<;>simp;done)|(exfalso;first|omega|(simp_all;done)|(simp_all;omega))
 all_goals first|exact main n 0 (Nat.zero_add _)|(refine at2 main n 0 (Nat.zero_add _) ?_ ?_<;>simp;done)|(exfalso;first|omega|(simp_all;done)|(simp_all;omega))
end Go.Proofs.Ytfhakdonenhnbaa
namespace Go.Proofs.Ytfhakdonenhnbaa
open Go Go.Pv
section
variable {A B C : Nat} {P Q R : List Pd}
theorem eqsB_iff {xs ys : List Nat} : eqsB xs ys = true ↔ ∀ i k,i < xs.length → k < xs.length → (at0 xs i = at0 xs k ↔ at0 ys i = at0 ys k):=by
 unfold eqsB
 simp only [List.all_eq_true,List.mem_range,beq_iff_eq,decide_eq_decide]
 exact ⟨fun h i k hi hk=>h i hi k hk,fun h i hi k hk=>h i k hi hk⟩
theorem predB_iff {p q : Pd} {xs ys : List Nat} : predB A B p q xs ys = true ↔ (p.ar = 0 → bitAt p 0 = bitAt q 0) ∧ (p.ar = 1 → ∀ k,k < xs.length → bitAt p (at0 xs k) = bitAt q (at0 ys k)) ∧
  (p.ar = 2 → ∀ k m,k < xs.length → m < xs.length → bitAt p (at0 xs k + at0 xs m * A) = bitAt q (at0 ys k + at0 ys m * B)):=by
 unfold predB
 by_cases h0 : p.ar = 0
 ·simp [h0]
 by_cases h1 : p.ar = 1
 ·simp [h1]
 by_cases h2 : p.ar = 2
 ·simp only [h2,List.all_eq_true,List.mem_range,beq_iff_eq]
  simp
  exact ⟨fun h i k hi hk=>h i hi k hk,fun h i hi k hk=>h i k hi hk⟩
 simp [h0,h1,h2]
theorem fitB_iff {xs ys : List Nat} : fitB A B P Q xs ys = true ↔ eqsB xs ys = true ∧ predsB A B P Q xs ys = true:=by rw [fitB,Bool.and_eq_true]
theorem winF_iff {r : Nat} {xs ys : List Nat} : winF A B P Q (r + 1) xs ys = true ↔ fitB A B P Q xs ys = true ∧ (∀ x < A,∃ y < B,winF A B P Q r (xs ++ [x]) (ys ++ [y]) = true) ∧ ∀ y < B,∃ x < A,winF A B P Q r (xs ++ [x]) (ys ++ [y]) = true:=by
 rw [winF,Bool.and_eq_true,Bool.and_eq_true]
 simp only [List.all_eq_true,List.any_eq_true,List.mem_range]
end
end Go.Proofs.Ytfhakdonenhnbaa
namespace Go.Proofs.Ytfhakdonenhnbaa
open Go Go.Pv
def Dh (h d e : Int) : Prop:=d = e ∨ (h ≤ d ∧ h ≤ e)
def IsoL (L : List (Int × Int)) : Prop:=∀ p ∈ L,∀ q ∈ L,(p.1 < q.1 ↔ p.2 < q.2)
def GoodL (h : Int) (L : List (Int × Int)) : Prop:=∀ p ∈ L,∀ q ∈ L,p.1 < q.1 → Dh h (q.1 - p.1) (q.2 - p.2)
theorem max_below {L : List (Int × Int)} {x : Int} (h : ∃ p ∈ L,p.1 < x) : ∃ p ∈ L,p.1 < x ∧ ∀ s ∈ L,s.1 < x → s.1 ≤ p.1:=by
 induction L with
 | nil=>obtain ⟨p,hp,_⟩:=h;cases hp
 | cons a r ih=>
  by_cases hr : ∃ p ∈ r,p.1 < x
  ·obtain ⟨p,hp,h1,h2⟩ := ih hr
   by_cases ha : a.1 < x ∧ p.1 < a.1
   ·refine ⟨a,by simp,ha.1,fun s hs hsx => ?_⟩
    rcases List.mem_cons.1 hs with rfl | hs
    ·exact Int.le_refl _
    ·have:=h2 s hs hsx;omega
   ·refine ⟨p,by simp [hp],h1,fun s hs hsx => ?_⟩
    rcases List.mem_cons.1 hs with rfl | hs
    ·by_cases h : p.1 < s.1
     ·exact absurd ⟨hsx,h⟩ ha
     ·omega
    ·exact h2 s hs hsx
  ·obtain ⟨p,hp,h1⟩ := h
   rcases List.mem_cons.1 hp with rfl | hp
   ·refine ⟨p,by simp,h1,fun s hs hsx => ?_⟩
    rcases List.mem_cons.1 hs with rfl | hs
    ·exact Int.le_refl _
    ·exact absurd ⟨s,hs,hsx⟩ hr
   ·exact absurd ⟨p,hp,h1⟩ hr
theorem min_above {L : List (Int × Int)} {x : Int} (h : ∃ p ∈ L,x < p.1) : ∃ p ∈ L,x < p.1 ∧ ∀ s ∈ L,x < s.1 → p.1 ≤ s.1:=by
 have:=max_below (L:=L.map fun p=>(-p.1,p.2)) (x:=-x) (by
  obtain ⟨p,hp,h1⟩:=h
  exact ⟨_,List.mem_map.2 ⟨p,hp,rfl⟩,by dsimp only;omega⟩)
 obtain ⟨q,hq,h1,h2⟩:=this
 obtain ⟨p,hp,rfl⟩:=List.mem_map.1 hq
 refine ⟨p,hp,by dsimp only at h1;omega,fun s hs hsx=>?_⟩
 have:=h2 _ (List.mem_map.2 ⟨s,hs,rfl⟩) (by dsimp only;omega)
 dsimp only at this;omega
theorem answer {h : Int} (hh : 1 ≤ h) {L : List (Int × Int)} {A B : Int} (h0 : (-1,-1) ∈ L) (hB : (A,B) ∈ L) (hi : IsoL L) (hg : GoodL (2 * h) L) (hin : ∀ p ∈ L,-1 ≤ p.2 ∧ p.2 ≤ B) {x : Int} (x0 : 0 ≤ x) (xA : x < A) :
  ∃ y,0 ≤ y ∧ y < B ∧ ∀ s ∈ L,(s.1 < x ↔ s.2 < y) ∧ (x < s.1 ↔ y < s.2) ∧ (s.1 < x → Dh h (x - s.1) (y - s.2)) ∧ (x < s.1 → Dh h (s.1 - x) (s.2 - y)):=by
 by_cases hx : ∃ p ∈ L,p.1 = x
 ·obtain ⟨p,hp,rfl⟩ := hx
  have i1:=(hi _ h0 _ hp).1 (by show (-1 : Int) < p.1;omega)
  have i2:=(hi _ hp _ hB).1 xA
  refine ⟨p.2,by show 0 ≤ p.2;change (-1 : Int) < p.2 at i1;omega,i2,fun s hs=>⟨hi s hs p hp,hi p hp s hs,fun h=>?_,fun h=>?_⟩⟩
  ·rcases hg s hs p hp h with e | ⟨e1,e2⟩
   ·exact .inl e
   ·exact .inr (by omega)
  ·rcases hg p hp s hs h with e | ⟨e1,e2⟩
   ·exact .inl e
   ·exact .inr (by omega)
 ·obtain ⟨p,hp,p1,p2⟩ := max_below (L := L) (x := x) ⟨_,h0,by show (-1 : Int) < x; omega⟩
  obtain ⟨q,hq,q1,q2⟩:=min_above (L:=L) (x:=x) ⟨_,hB,xA⟩
  have hpq : p.1 < q.1:=by omega
  have hpq2:=(hi p hp q hq).1 hpq
  have hd:=hg p hp q hq hpq
  have bp:=hin p hp
  have bq:=hin q hq
  -- the place
  have pick : ∃ e1,1 ≤ e1 ∧ 1 ≤ (q.2 - p.2) - e1 ∧ Dh h (x - p.1) e1 ∧ Dh h (q.1 - x) ((q.2 - p.2) - e1):=by
   unfold Dh at hd ⊢
   by_cases c0 : q.1 - p.1 = q.2 - p.2
   ·exact ⟨x - p.1,by omega,by omega,by omega,by omega⟩
   ·by_cases c1 : x - p.1 < h
    ·exact ⟨x - p.1,by omega,by omega,by omega,by omega⟩
    ·by_cases c2 : q.1 - x < h
     ·exact ⟨(q.2 - p.2) - (q.1 - x),by omega,by omega,by omega,by omega⟩
     ·exact ⟨h,by omega,by omega,by omega,by omega⟩
  obtain ⟨e1,g1,g2,g3,g4⟩:=pick
  refine ⟨p.2 + e1,by omega,by omega,fun s hs=>?_⟩
  have hne : s.1 ≠ x:=fun g=>hx ⟨s,hs,g⟩
  by_cases hsx : s.1 < x
  ·have hsp := p2 s hs hsx
   have i1:=hi p hp s hs
   have i2:=hi s hs p hp
   have hD : s.1 < p.1 → Dh (2 * h) (p.1 - s.1) (p.2 - s.2):=fun g=>hg s hs p hp g
   refine ⟨⟨fun _=>by omega,fun _=>hsx⟩,⟨fun g=>by omega,fun g=>by omega⟩,fun _=>?_,fun g=>by omega⟩
   unfold Dh at *
   by_cases c : s.1 < p.1
   ·have:=hD c;have:=i2.1 c;omega
   ·omega
  ·have hsq := q2 s hs (by omega)
   have i1:=hi q hq s hs
   have i2:=hi s hs q hq
   have hD : q.1 < s.1 → Dh (2 * h) (s.1 - q.1) (s.2 - q.2):=fun g=>hg q hq s hs g
   refine ⟨⟨fun g=>by omega,fun g=>by omega⟩,⟨fun g=>by omega,fun g=>by omega⟩,fun g=>by omega,fun _=>?_⟩
   unfold Dh at *
   by_cases c : q.1 < s.1
   ·have:=hD c;have:=i1.1 c;omega
   ·omega
theorem ask {h d e : Int} (hh : 1 ≤ h) (d1 : 1 ≤ d) (he : d < e) (hd : d < 2 * h) : ∃ e1,1 ≤ e1 ∧ 1 ≤ e - e1 ∧ ∀ x,Dh h x e1 → Dh h (d - x) (e - e1) → False:=by
 by_cases c : 2 * h ≤ e
 ·refine ⟨h,by omega,by omega,fun x g1 g2 => ?_⟩
  unfold Dh at *;omega
 ·refine ⟨e / 2,by omega,by omega,fun x g1 g2 => ?_⟩
  unfold Dh at *;omega
def endsL (A B : Nat) (xs ys : List Nat) : List (Int × Int):=(-1,-1) :: ((A : Int),(B : Int)) :: (xs.zip ys).map fun p=>((p.1 : Int),(p.2 : Int))
section
variable {A B : Nat} {xs ys : List Nat}
theorem ends_mem (hl : ys.length = xs.length) {p : Int × Int} : p ∈ endsL A B xs ys ↔ p = (-1,-1) ∨ p = ((A : Int),(B : Int)) ∨ ∃ i,i < xs.length ∧ p = ((at0 xs i : Int),(at0 ys i : Int)):=by
 unfold endsL
 rw [List.mem_cons,List.mem_cons]
 refine or_congr Iff.rfl (or_congr Iff.rfl ⟨fun h=>?_,fun h=>?_⟩)
 ·obtain ⟨q,hq,rfl⟩ := List.mem_map.1 h
  obtain ⟨i,hi,rfl⟩:=List.mem_iff_getElem.1 hq
  have h1 : i < xs.length:=by simp at hi;omega
  refine ⟨i,h1,?_⟩
  unfold at0
  rw [List.getElem_zip,List.getD_eq_getElem?_getD,List.getD_eq_getElem?_getD,List.getElem?_eq_getElem h1,List.getElem?_eq_getElem (by omega)];rfl
 ·obtain ⟨i,hi,rfl⟩ := h
  refine List.mem_map.2 ⟨(xs[i], ys[i]'(by omega)), ?_, ?_⟩
  ·exact List.mem_iff_getElem.2 ⟨i,by simp;omega,by rw [List.getElem_zip]⟩
  ·unfold at0
   rw [List.getD_eq_getElem?_getD,List.getD_eq_getElem?_getD,List.getElem?_eq_getElem hi,List.getElem?_eq_getElem (by omega)];rfl
theorem ends_snoc (hl : ys.length = xs.length) {x y : Nat} {p : Int × Int} : p ∈ endsL A B (xs ++ [x]) (ys ++ [y]) ↔ p ∈ endsL A B xs ys ∨ p = ((x : Int),(y : Int)):=by
 unfold endsL
 rw [List.zip_append hl.symm]
 simp only [List.map_append,List.mem_cons,List.mem_append,List.zip_cons_cons,List.zip_nil_right,List.map_cons,List.map_nil,List.not_mem_nil,or_false,or_assoc]
theorem ord_bit {n u v : Nat} (hu : u < n) (hv : v < n) : bitAt ⟨⟨#[82]⟩,2,bitsF n n (n + 1)⟩ (u + v * n) = decide (u < v):=by
 unfold bitAt
 rw [Nat.mul_comm,List.getD_eq_getElem?_getD,bitsF_get (place_lt hu hv),Option.getD_some,(place_mod hu).1,(place_mod hu).2,decide_eq_decide]
 omega
theorem ord_fit (hl : ys.length = xs.length) (hA : ∀ x ∈ xs,x < A) (hB : ∀ y ∈ ys,y < B) : fitB A B (ordF A).preds (ordF B).preds xs ys = true ↔ IsoL (endsL A B xs ys):=by
 have hb : predsB A B (ordF A).preds (ordF B).preds xs ys = true ↔ ∀ k m,k < xs.length → m < xs.length → (at0 xs k < at0 xs m ↔ at0 ys k < at0 ys m):=by
  show (predB A B _ _ xs ys && true) = true ↔ _
  rw [Bool.and_true,predB_iff]
  constructor
  ·intro h k m hk hm
   have:=h.2.2 rfl k m hk hm
   rw [ord_bit (at0_lt hA hk) (at0_lt hA hm),ord_bit (at0_lt hB (by omega)) (at0_lt hB (by omega)),decide_eq_decide] at this
   exact this
  ·intro h
   refine ⟨fun g=>absurd (show (2 : Int) = 0 from g) (by decide),fun g=>absurd (show (2 : Int) = 1 from g) (by decide),fun _ k m hk hm=>?_⟩
   rw [ord_bit (at0_lt hA hk) (at0_lt hA hm),ord_bit (at0_lt hB (by omega)) (at0_lt hB (by omega)),decide_eq_decide]
   exact h k m hk hm
 rw [fitB_iff,hb,eqsB_iff]
 constructor
 ·rintro ⟨h1,h2⟩ p hp q hq
  rw [ends_mem hl] at hp hq
  rcases hp with rfl | rfl | ⟨i,hi,rfl⟩ <;> rcases hq with rfl | rfl | ⟨k,hk,rfl⟩ <;> dsimp only
  ·omega
  ·omega
  ·omega
  ·omega
  ·omega
  ·have:=at0_lt hA hk;have:=at0_lt hB (show k < ys.length by omega);omega
  ·omega
  ·have:=at0_lt hA hi;have:=at0_lt hB (show i < ys.length by omega);omega
  ·have:=h2 i k hi hk;omega
 ·intro h
  have h2 : ∀ k m,k < xs.length → m < xs.length → (at0 xs k < at0 xs m ↔ at0 ys k < at0 ys m):=fun k m hk hm=>by
   have:=h _ ((ends_mem hl).2 (.inr (.inr ⟨k,hk,rfl⟩))) _ ((ends_mem hl).2 (.inr (.inr ⟨m,hm,rfl⟩)))
   dsimp only at this;omega
  exact ⟨fun i k hi hk=>by have:=h2 i k hi hk;have:=h2 k i hk hi;omega,h2⟩
end
theorem GoodL.mono {h : Int} {L M : List (Int × Int)} (g : GoodL h L) (hs : ∀ p ∈ M,p ∈ L) : GoodL h M:=fun p hp q hq=>g p (hs p hp) q (hs q hq)
theorem ord_win {A B : Nat} : ∀ (r : Nat) (xs ys : List Nat),ys.length = xs.length → (∀ x ∈ xs,x < A) → (∀ y ∈ ys,y < B) → (winF A B (ordF A).preds (ordF B).preds r xs ys = true ↔ IsoL (endsL A B xs ys) ∧ GoodL (2 ^ r) (endsL A B xs ys))
 | 0,xs,ys,hl,hA,hB=>by
  show fitB A B (ordF A).preds (ordF B).preds xs ys = true ↔ _
  rw [ord_fit hl hA hB]
  refine ⟨fun h=>⟨h,fun p hp q hq hpq=>.inr ?_⟩,fun h=>h.1⟩
  have:=(h p hp q hq).1 hpq
  show (1 : Int) ≤ _ ∧ (1 : Int) ≤ _
  omega
 | r + 1,xs,ys,hl,hA,hB=>by
  have hpow : (2 : Int) ^ (r + 1) = 2 * 2 ^ r:=by rw [Int.pow_succ,Int.mul_comm]
  have hh : (1 : Int) ≤ 2 ^ r:=Int.pow_pos (by decide)
  have ih:=fun x (hx : x < A) y (hy : y < B)=>ord_win (A:=A) (B:=B) r (xs ++ [x]) (ys ++ [y]) (by simp [hl])
   (fun z hz=>by rcases List.mem_append.1 hz with h | h;exact hA z h;rw [List.mem_singleton.1 h];exact hx) (fun z hz=>by rcases List.mem_append.1 hz with h | h;exact hB z h;rw [List.mem_singleton.1 h];exact hy)
  have m0 : ((-1 : Int),(-1 : Int)) ∈ endsL A B xs ys:=by simp [endsL]
  have mB : ((A : Int),(B : Int)) ∈ endsL A B xs ys:=by simp [endsL]
  have hin : ∀ p ∈ endsL A B xs ys,(-1 ≤ p.1 ∧ p.1 ≤ (A : Int)) ∧ -1 ≤ p.2 ∧ p.2 ≤ (B : Int):=by
   intro p hp
   rcases (ends_mem hl).1 hp with rfl | rfl | ⟨i,hi,rfl⟩ <;> dsimp only
   ·omega
   ·omega
   ·have:=at0_lt hA hi;have:=at0_lt hB (show i < ys.length by omega);omega
  rw [winF_iff,ord_fit hl hA hB,hpow]
  generalize (2 : Int) ^ r = h at *
  have two : ∀ (x y : Nat),x < A → y < B → (IsoL (endsL A B xs ys) → (∀ s ∈ endsL A B xs ys,(s.1 < (x : Int) ↔ s.2 < (y : Int)) ∧ ((x : Int) < s.1 ↔ (y : Int) < s.2) ∧ (s.1 < (x : Int) → Dh h ((x : Int) - s.1) ((y : Int) - s.2)) ∧ ((x : Int) < s.1 → Dh h (s.1 - (x : Int)) (s.2 - (y : Int)))) → GoodL (2 * h) (endsL A B xs ys) →
    winF A B (ordF A).preds (ordF B).preds r (xs ++ [x]) (ys ++ [y]) = true):=by
   intro x y hx hy hi hs hg
   rw [ih x hx y hy]
   constructor
   ·intro p hp q hq
    rw [ends_snoc hl] at hp hq
    rcases hp with hp | rfl <;> rcases hq with hq | rfl
    ·exact hi p hp q hq
    ·exact (hs p hp).1
    ·exact (hs q hq).2.1
    ·dsimp only;omega
   ·intro p hp q hq hpq
    rw [ends_snoc hl] at hp hq
    rcases hp with hp | rfl <;> rcases hq with hq | rfl
    ·rcases hg p hp q hq hpq with e | e
     ·exact .inl e
     ·exact .inr (by omega)
    ·exact (hs p hp).2.2.1 hpq
    ·exact (hs q hq).2.2.2 hpq
    ·dsimp only at hpq;omega
  constructor
  ·rintro ⟨hi,w1,w2⟩
   refine ⟨hi,fun p hp q hq hpq=>Classical.byContradiction fun hbad=>?_⟩
   have hpq2:=(hi p hp q hq).1 hpq
   have bp:=hin p hp
   have bq:=hin q hq
   by_cases c : q.1 - p.1 < q.2 - p.2
   ·have hd : q.1 - p.1 < 2 * h := by
     apply Classical.byContradiction;intro g;apply hbad;unfold Dh;omega
    obtain ⟨e1,g1,g2,g3⟩:=ask hh (show 1 ≤ q.1 - p.1 by omega) c hd
    obtain ⟨y,hy⟩ : ∃ y : Nat,(y : Int) = p.2 + e1:=⟨(p.2 + e1).toNat,by omega⟩
    obtain ⟨x,hx,hw⟩:=w2 y (by omega)
    obtain ⟨i2,gd⟩:=(ih x hx y (by omega)).1 hw
    have mp:=(ends_snoc (A:=A) (B:=B) hl (x:=x) (y:=y)).2 (.inl hp)
    have mq:=(ends_snoc (A:=A) (B:=B) hl (x:=x) (y:=y)).2 (.inl hq)
    have mx:=(ends_snoc (A:=A) (B:=B) (xs:=xs) (ys:=ys) hl (x:=x) (y:=y) (p:=((x : Int),(y : Int)))).2 (.inr rfl)
    have j1:=(i2 _ mp _ mx).2 (by dsimp only;omega)
    have j2:=(i2 _ mx _ mq).2 (by dsimp only;omega)
    have k1:=gd _ mp _ mx j1
    have k2:=gd _ mx _ mq j2
    dsimp only at k1 k2
    refine g3 ((x : Int) - p.1) (by rwa [show (y : Int) - p.2 = e1 by omega] at k1) ?_
    rw [show q.1 - p.1 - ((x : Int) - p.1) = q.1 - (x : Int) by omega,show q.2 - p.2 - e1 = q.2 - (y : Int) by omega]
    exact k2
   ·have hd : q.2 - p.2 < 2 * h ∧ q.2 - p.2 < q.1 - p.1 := by
     constructor <;> apply Classical.byContradiction <;> intro g <;> apply hbad <;> unfold Dh <;> omega
    obtain ⟨e1,g1,g2,g3⟩:=ask hh (show 1 ≤ q.2 - p.2 by omega) hd.2 hd.1
    obtain ⟨x,hx⟩ : ∃ x : Nat,(x : Int) = p.1 + e1:=⟨(p.1 + e1).toNat,by omega⟩
    obtain ⟨y,hy,hw⟩:=w1 x (by omega)
    obtain ⟨i2,gd⟩:=(ih x (by omega) y hy).1 hw
    have mp:=(ends_snoc (A:=A) (B:=B) hl (x:=x) (y:=y)).2 (.inl hp)
    have mq:=(ends_snoc (A:=A) (B:=B) hl (x:=x) (y:=y)).2 (.inl hq)
    have mx:=(ends_snoc (A:=A) (B:=B) (xs:=xs) (ys:=ys) hl (x:=x) (y:=y) (p:=((x : Int),(y : Int)))).2 (.inr rfl)
    have j1 : p.1 < (x : Int):=by omega
    have j2 : (x : Int) < q.1:=by omega
    have k1:=gd _ mp _ mx j1
    have k2:=gd _ mx _ mq j2
    dsimp only at k1 k2
    have sym : ∀ a b,Dh h a b → Dh h b a:=fun a b g=>g.elim (fun g=>.inl g.symm) (fun g=>.inr ⟨g.2,g.1⟩)
    refine g3 ((y : Int) - p.2) (sym _ _ (by rwa [show (x : Int) - p.1 = e1 by omega] at k1)) (sym _ _ ?_)
    rw [show q.2 - p.2 - ((y : Int) - p.2) = q.2 - (y : Int) by omega,show q.1 - p.1 - e1 = q.1 - (x : Int) by omega]
    exact k2
  ·rintro ⟨hi,hg⟩
   refine ⟨hi,fun x hx=>?_,fun y hy=>?_⟩
   ·obtain ⟨y,y0,yB,hs⟩ := answer hh m0 mB hi hg (fun p hp => (hin p hp).2) (show 0 ≤ (x : Int) by omega) (by omega)
    obtain ⟨y',rfl⟩ : ∃ y' : Nat,y = (y' : Int):=⟨y.toNat,by omega⟩
    exact ⟨y',by omega,two x y' hx (by omega) hi hs hg⟩
   ·have sw : ∀ p,p ∈ (endsL A B xs ys).map (fun p => (p.2,p.1)) ↔ (p.2,p.1) ∈ endsL A B xs ys := fun p => by
     rw [List.mem_map]
     exact ⟨fun ⟨q,hq,e⟩=>by subst e;exact hq,fun h=>⟨_,h,rfl⟩⟩
    have sym : ∀ a b,Dh h a b → Dh h b a:=fun a b g=>g.elim (fun g=>.inl g.symm) (fun g=>.inr ⟨g.2,g.1⟩)
    have sym2 : ∀ a b,Dh (2 * h) a b → Dh (2 * h) b a:=fun a b g=>g.elim (fun g=>.inl g.symm) (fun g=>.inr ⟨g.2,g.1⟩)
    obtain ⟨x,x0,xA,hs⟩:=answer (L:=(endsL A B xs ys).map fun p=>(p.2,p.1)) (A:=(B : Int)) (B:=(A : Int)) hh ((sw _).2 m0) ((sw _).2 mB)
     (fun p hp q hq=>(hi _ ((sw p).1 hp) _ ((sw q).1 hq)).symm) (fun p hp q hq hpq=>sym2 _ _ (hg _ ((sw p).1 hp) _ ((sw q).1 hq) ((hi _ ((sw p).1 hp) _ ((sw q).1 hq)).2 hpq)))
     (fun p hp=>(hin _ ((sw p).1 hp)).1) (show 0 ≤ (y : Int) by omega) (by omega)
    obtain ⟨x',rfl⟩ : ∃ x' : Nat,x = (x' : Int):=⟨x.toNat,by omega⟩
    refine ⟨x',by omega,two x' y (by omega) hy hi (fun s hs'=>?_) hg⟩
    obtain ⟨k1,k2,k3,k4⟩:=hs (s.2,s.1) ((sw _).2 hs')
    exact ⟨k1.symm,k2.symm,fun g=>sym _ _ (k3 (k1.2 g)),fun g=>sym _ _ (k4 (k2.2 g))⟩
theorem orders {A B n : Nat} : winF A B (ordF A).preds (ordF B).preds n [] [] = decide (A = B ∨ (2 ^ n ≤ A + 1 ∧ 2 ^ n ≤ B + 1)):=by
 rw [Bool.eq_iff_iff,ord_win n [] [] rfl (fun x h=>by cases h) (fun x h=>by cases h),decide_eq_true_eq]
 have hm : ∀ p,p ∈ endsL A B [] [] ↔ p = (-1,-1) ∨ p = ((A : Int),(B : Int)):=fun p=>by simp [endsL]
 have hp : ((2 ^ n : Nat) : Int) = (2 : Int) ^ n:=by rw [Int.natCast_pow];rfl
 have h1 : 1 ≤ 2 ^ n:=Nat.one_le_two_pow
 rw [← hp]
 generalize 2 ^ n = h at *
 constructor
 ·rintro ⟨_,hg⟩
  have:=hg _ ((hm _).2 (.inl rfl)) _ ((hm _).2 (.inr rfl)) (by dsimp only;omega)
  unfold Dh at this
  dsimp only at this
  omega
 ·intro hc
  refine ⟨fun p hp q hq=>?_,fun p hp q hq hpq=>?_⟩
  ·rcases (hm _).1 hp with rfl | rfl <;> rcases (hm _).1 hq with rfl | rfl <;> dsimp only <;> omega
  ·unfold Dh
   rcases (hm _).1 hp with rfl | rfl <;> rcases (hm _).1 hq with rfl | rfl <;> dsimp only at hpq ⊢ <;> omega
end Go.Proofs.Ytfhakdonenhnbaa
namespace Go.Proofs.Ytfhakdonenhnbaa
open Go Go.Pv
theorem gameF_of {a b : Stc} {n : Int} (h1 : (stcF a).1 = 0) (h2 : (stcF b).1 = 0) (f1 : a.funs = []) (f2 : b.funs = []) (p1 : ∀ p ∈ a.preds,p.ar ≤ 2) (p2 : ∀ p ∈ b.preds,p.ar ≤ 2) (q1 : a.preds.map Pd.ar = b.preds.map Pd.ar)
  (q2 : a.preds.map Pd.name = b.preds.map Pd.name) (n1 : 0 ≤ n) (n2 : n ≤ 4) : gameF a b n = (0,0):=by
 have arN : ∀ (P : List Pd) i,(∀ p ∈ P,p.ar ≤ 2) → arF P i = none:=by
  intro P
  induction P with
  | nil=>intro i _;rfl
  | cons q r ih=>
   intro i h
   unfold arF
   rw [if_neg (by have:=h q (by simp);omega)]
   exact ih _ fun p hp=>h p (by simp [hp])
 have nm : ∀ (P Q : List Pd) i,P.map Pd.ar = Q.map Pd.ar → P.map Pd.name = Q.map Pd.name → nmF P Q i = none:=by
  intro P
  induction P with
  | nil=>intro Q i _ _;cases Q <;> rfl
  | cons p r ih=>
   intro Q i h g
   cases Q with
   | nil=>cases h
   | cons q t=>
    simp only [List.map_cons,List.cons.injEq] at h g
    unfold nmF
    rw [if_neg (fun e=>e.elim (fun e=>e g.1) (fun e=>e h.1))]
    exact ih t _ h.2 g.2
 unfold gameF
 rw [if_neg (fun g=>g h1),if_neg (fun g=>g h2)]
 have k1 : kndF a = none:=by unfold kndF;rw [f1,if_neg (by simp)];exact arN _ _ p1
 have k2 : kndF b = none:=by unfold kndF;rw [f2,if_neg (by simp)];exact arN _ _ p2
 rw [k1,k2]
 dsimp only
 have hl : a.preds.length = b.preds.length:=by simpa using congrArg List.length q1
 rw [if_neg (fun g=>g hl),nm _ _ _ q1 q2]
 dsimp only
 rw [if_neg (by omega)]
theorem winB_of {a b : Stc} {n : Int} (h : gameF a b n = (0,0)) : winB a b n = winF a.n.toNat b.n.toNat a.preds b.preds n.toNat [] []:=by unfold winB;rw [h,if_pos rfl]
end Go.Proofs.Ytfhakdonenhnbaa
namespace Go.Proofs.Ytfhakdonenhnbaa
open Go Go.Pv
theorem ord_stc {n : Nat} (h1 : 1 ≤ n) (h8 : n ≤ 8) : (stcF (ordF n)).1 = 0:=by
 match n,h1,h8 with
 | 1,_,_ | 2,_,_ | 3,_,_ | 4,_,_ | 5,_,_ | 6,_,_ | 7,_,_ | 8,_,_=>exact congrArg Prod.fst (show stcF (ordF _) = (0,0) by kernel_rfl)
theorem ord_game {i k : Nat} {n : Int} (i1 : 1 ≤ i) (i8 : i ≤ 8) (k1 : 1 ≤ k) (k8 : k ≤ 8) (n0 : 0 ≤ n) (n4 : n ≤ 4) : gameF (ordF i) (ordF k) n = (0,0):=
 gameF_of (ord_stc i1 i8) (ord_stc k1 k8) rfl rfl (fun p hp=>by rw [List.mem_singleton.1 hp];exact Int.le_refl _) (fun p hp=>by rw [List.mem_singleton.1 hp];exact Int.le_refl _) rfl rfl n0 n4
@[simp] theorem cl_ord {n : Nat} : Closed (.agg (stc (ordF n))):=closed_agg (by unfold stc;simp)
def x4 : XC:=.seq (.reg [⟨some 6,.assign (.const (.bool false)),none⟩]) (.seq (.seq (.reg [⟨some 10,.call ⟨.value (.func 6),#[],#[]⟩,none⟩,⟨some 11,.unOp .not 4 (.tmp 10),none⟩]) (.cond (.tmp 11) (.seq (.reg [⟨some 6,.assign (.const (.bool false)),none⟩]) .ret) .skip)) (.seq (.seq (.reg [⟨some 12,.move (.tmp 0),none⟩,⟨some 13,.binOp .lss 3 (.tmp 12) (.const (.int .i64 1)) 3,none⟩,⟨some 14,.move (.tmp 13),none⟩,⟨some 15,.move (.tmp 0),some (some 14,false)⟩,⟨some 16,.binOp .gtr 3 (.tmp 15) (.const (.int .i64 8)) 3,some (some 14,false)⟩,⟨some 17,.pick (.tmp 14) (.const (.bool true)) (.tmp 16),none⟩,⟨some 18,.move (.tmp 17),none⟩,⟨some 19,.move (.tmp 1),some (some 18,false)⟩,⟨some 20,.binOp .lss 3 (.tmp 19) (.const (.int .i64 1)) 3,some (some 18,false)⟩,⟨some 21,.pick (.tmp 18) (.const (.bool true)) (.tmp 20),none⟩,⟨some 22,.move (.tmp 21),none⟩,⟨some 23,.move (.tmp 1),some (some 22,false)⟩,⟨some 24,.binOp .gtr 3 (.tmp 23) (.const (.int .i64 8)) 3,some (some 22,false)⟩,⟨some 25,.pick (.tmp 22) (.const (.bool true)) (.tmp 24),none⟩,⟨some 26,.move (.tmp 25),none⟩,⟨some 27,.move (.tmp 2),some (some 26,false)⟩,⟨some 28,.binOp .lss 3 (.tmp 27) (.const (.int .i64 0)) 3,some (some 26,false)⟩,⟨some 29,.pick (.tmp 26) (.const (.bool true)) (.tmp 28),none⟩,⟨some 30,.move (.tmp 29),none⟩,⟨some 31,.move (.tmp 2),some (some 30,false)⟩,⟨some 32,.binOp .gtr 3 (.tmp 31) (.const (.int .i64 3)) 3,some (some 30,false)⟩,⟨some 33,.pick (.tmp 30) (.const (.bool true)) (.tmp 32),none⟩]) (.cond (.tmp 33) (.seq (.reg [⟨some 6,.assign (.const (.bool true)),none⟩]) .ret) .skip)) (.seq (.reg [⟨some 35,.move (.tmp 0),none⟩,⟨some 36,.call ⟨.value (.func 13),#[.tmp 35],#[3]⟩,none⟩,⟨some 37,.move (.tmp 1),none⟩,⟨some 38,.call ⟨.value (.func 13),#[.tmp 37],#[3]⟩,none⟩,⟨some 39,.move (.tmp 2),none⟩,⟨some 40,.call ⟨.value (.func 8),#[.tmp 36,.tmp 38,.tmp 39],#[25,25,3]⟩,none⟩,⟨some 34,.move (.tmp 40),none⟩,⟨some 41,.extract (.tmp 34) 0,none⟩,⟨some 42,.extract (.tmp 34) 1,none⟩,⟨some 8,.alloc 33,none⟩,⟨some 7,.assign (.tmp 41),none⟩,⟨none,.store 33 (.tmp 8) (.tmp 42),none⟩]) (.seq (.reg [⟨some 43,.move (.tmp 2),none⟩,⟨some 44,.binOp .shl 3 (.const (.int .i64 1)) (.tmp 43) 3,none⟩,⟨some 45,.binOp .sub 3 (.tmp 44) (.const (.int .i64 1)) 3,none⟩,⟨some 9,.assign (.tmp 45),none⟩]) (.seq (.reg [⟨some 46,.fieldAddr 33 (.tmp 8) 0,none⟩,⟨some 47,.load 3 (.tmp 46),none⟩,⟨some 48,.binOp .eql 3 (.tmp 47) (.const (.int .i64 0)) 3,none⟩,⟨some 49,.move (.tmp 48),none⟩,⟨some 50,.move (.tmp 7),some (some 49,true)⟩,⟨some 51,.move (.tmp 0),some (some 49,true)⟩,⟨some 52,.move (.tmp 1),some (some 49,true)⟩,⟨some 53,.binOp .eql 3 (.tmp 51) (.tmp 52) 3,some (some 49,true)⟩,⟨some 54,.move (.tmp 53),some (some 49,true)⟩,⟨some 55,.move (.tmp 0),some (some 54,false)⟩,⟨some 56,.move (.tmp 9),some (some 54,false)⟩,⟨some 57,.binOp .geq 3 (.tmp 55) (.tmp 56) 3,some (some 54,false)⟩,⟨some 58,.move (.tmp 57),some (some 54,false)⟩,⟨some 59,.move (.tmp 1),some (some 58,true)⟩,⟨some 60,.move (.tmp 9),some (some 58,true)⟩,⟨some 61,.binOp .geq 3 (.tmp 59) (.tmp 60) 3,some (some 58,true)⟩,⟨some 62,.pick (.tmp 58) (.tmp 61) (.const (.bool false)),some (some 54,false)⟩,⟨some 63,.pick (.tmp 54) (.const (.bool true)) (.tmp 62),some (some 49,true)⟩,⟨some 64,.binOp .eql 4 (.tmp 50) (.tmp 63) 4,some (some 49,true)⟩,⟨some 65,.pick (.tmp 49) (.tmp 64) (.const (.bool false)),none⟩,⟨some 6,.assign (.tmp 65),none⟩]) .ret)))))
@[simp] theorem x4_s {C e s K} : type_of% (@X_at C e s K _ _ x4.eq_1):=X_at x4.eq_1
def an4 : Ann:=⟨[],[],[]⟩
theorem fi4 : FI Try.prog 4 (cxA an4) x4 [.tmp 6] Try.f4:=fiA Try.func4 mixed
theorem gamesOrders_law (i k n : Int) : CallOK Try.prog 4 [.int .i64 i,.int .i64 k,.int .i64 n] [] (.bool true) []:=by
 have hb:=gamesBegun_law
 refine fi4.op ?_
 by_cases c : i < 1 ∨ 8 < i ∨ k < 1 ∨ 8 < k ∨ n < 0 ∨ 3 < n
 ·by_cases c1 : i < 1
  ·(refine Sg.h ?_;try repeat' ((first|(with_reducible first|refine brA ?_|refine brE fun _=>?_|refine spl ⟨?_,?_⟩<;>intro _)|refine clo hb ?_)<;>((try simp -implicitDefEqProofs [c1]);(try simp -implicitDefEqProofs(disch:=first|assumption|(try simp only[lens]);omega -splitDisjunctions) [c1]))))
  by_cases c2 : 8 < i
  ·(refine Sg.h ?_;try repeat' ((first|(with_reducible first|refine brA ?_|refine brE fun _=>?_|refine spl ⟨?_,?_⟩<;>intro _)|refine clo hb ?_)<;>((try simp -implicitDefEqProofs [c1,c2]);(try simp -implicitDefEqProofs(disch:=first|assumption|(try simp only[lens]);omega -splitDisjunctions) [c1,c2]))))
  by_cases c3 : k < 1
  ·(refine Sg.h ?_;try repeat' ((first|(with_reducible first|refine brA ?_|refine brE fun _=>?_|refine spl ⟨?_,?_⟩<;>intro _)|refine clo hb ?_)<;>((try simp -implicitDefEqProofs [c1,c2,c3]);(try simp -implicitDefEqProofs(disch:=first|assumption|(try simp only[lens]);omega -splitDisjunctions) [c1,c2,c3]))))
  by_cases c4 : 8 < k
  ·(refine Sg.h ?_;try repeat' ((first|(with_reducible first|refine brA ?_|refine brE fun _=>?_|refine spl ⟨?_,?_⟩<;>intro _)|refine clo hb ?_)<;>((try simp -implicitDefEqProofs [c1,c2,c3,c4]);(try simp -implicitDefEqProofs(disch:=first|assumption|(try simp only[lens]);omega -splitDisjunctions) [c1,c2,c3,c4]))))
  by_cases c5 : n < 0
  ·(refine Sg.h ?_;try repeat' ((first|(with_reducible first|refine brA ?_|refine brE fun _=>?_|refine spl ⟨?_,?_⟩<;>intro _)|refine clo hb ?_)<;>((try simp -implicitDefEqProofs [c1,c2,c3,c4,c5]);(try simp -implicitDefEqProofs(disch:=first|assumption|(try simp only[lens]);omega -splitDisjunctions) [c1,c2,c3,c4,c5]))))
  have c6 : 3 < n:=by omega
  (refine Sg.h ?_;try repeat' ((first|(with_reducible first|refine brA ?_|refine brE fun _=>?_|refine spl ⟨?_,?_⟩<;>intro _)|refine clo hb ?_)<;>((try simp -implicitDefEqProofs [c1,c2,c3,c4,c5,c6]);(try simp -implicitDefEqProofs(disch:=first|assumption|(try simp only[lens]);omega -splitDisjunctions) [c1,c2,c3,c4,c5,c6]))))
 obtain ⟨i',rfl⟩ : ∃ i' : Nat,i = (i' : Int):=⟨i.toNat,by omega⟩
 obtain ⟨k',rfl⟩ : ∃ k' : Nat,k = (k' : Int):=⟨k.toNat,by omega⟩
 obtain ⟨n',rfl⟩ : ∃ n' : Nat,n = (n' : Int):=⟨n.toNat,by omega⟩
 have o1:=OrderOf_ref i' (by omega) (by omega)
 have o2:=OrderOf_ref k' (by omega) (by omega)
 have w:=Wins_games (ordF i') (ordF k') (n' : Int)
 have hg:=ord_game (i:=i') (k:=k') (n:=(n' : Int)) (by omega) (by omega) (by omega) (by omega) (by omega) (by omega)
 rw [winB_of hg,hg] at w
 rw [show (ordF i').n.toNat = i' from rfl,show (ordF k').n.toNat = k' from rfl,Int.toNat_natCast,orders] at w
 have hM : ∃ M : Nat,2 ^ n' = M ∧ shlI .i64 1 (n' : Int) = (M : Int) ∧ 1 ≤ M ∧ M ≤ 8:=by
  match n',(show n' ≤ 3 by omega) with
  | 0,_=>exact ⟨1,rfl,by kernel_rfl,by decide,by decide⟩
  | 1,_=>exact ⟨2,rfl,by kernel_rfl,by decide,by decide⟩
  | 2,_=>exact ⟨4,rfl,by kernel_rfl,by decide,by decide⟩
  | 3,_=>exact ⟨8,rfl,by kernel_rfl,by decide,by decide⟩
 obtain ⟨M,hM1,hM2,hM3,hM4⟩:=hM
 rw [hM1] at w
 clear hM1
 have c1 : ¬ (i' : Int) < 1:=by omega
 have c2 : ¬ 8 < (i' : Int):=by omega
 have c3 : ¬ (k' : Int) < 1:=by omega
 have c4 : ¬ 8 < (k' : Int):=by omega
 have c5 : ¬ (n' : Int) < 0:=by omega
 have c6 : ¬ 3 < (n' : Int):=by omega
 have d1 : ¬ (M : Int) - 1 < -9223372036854775808:=by omega
 by_cases e : i' = k'
 ·subst e
  have e' : (i' : Int) = (i' : Int):=rfl
  rw [decide_eq_true (.inl rfl)] at w
  (refine Sg.h ?_;try repeat' ((first|(with_reducible first|refine brA ?_|refine brE fun _=>?_|refine spl ⟨?_,?_⟩<;>intro _)|refine clo hb ?_|refine clo o1 ?_|refine clo o2 ?_|refine clo w ?_)<;>((try simp -implicitDefEqProofs [c1,c2,c3,c4,c5,c6,hM2,e']);(try simp -implicitDefEqProofs(disch:=first|assumption|(try simp only[lens]);omega -splitDisjunctions) [c1,c2,c3,c4,c5,c6,hM2,e']))))
 have e' : ¬ (i' : Int) = (k' : Int):=by omega
 by_cases f1 : M ≤ i' + 1
 ·have f1' : (M : Int) - 1 ≤ (i' : Int) := by omega
  by_cases f2 : M ≤ k' + 1
  ·have f2' : (M : Int) - 1 ≤ (k' : Int) := by omega
   rw [decide_eq_true (.inr ⟨f1,f2⟩)] at w
   (refine Sg.h ?_;try repeat' ((first|(with_reducible first|refine brA ?_|refine brE fun _=>?_|refine spl ⟨?_,?_⟩<;>intro _)|refine clo hb ?_|refine clo o1 ?_|refine clo o2 ?_|refine clo w ?_)<;>((try simp -implicitDefEqProofs [c1,c2,c3,c4,c5,c6,hM2,e',f1',f2']);(try simp -implicitDefEqProofs(disch:=first|assumption|(try simp only[lens]);omega -splitDisjunctions) [c1,c2,c3,c4,c5,c6,hM2,e',f1',f2']))))
  ·have f2' : ¬ (M : Int) - 1 ≤ (k' : Int) := by omega
   rw [decide_eq_false (fun g=>g.elim e fun g=>f2 g.2)] at w
   (refine Sg.h ?_;try repeat' ((first|(with_reducible first|refine brA ?_|refine brE fun _=>?_|refine spl ⟨?_,?_⟩<;>intro _)|refine clo hb ?_|refine clo o1 ?_|refine clo o2 ?_|refine clo w ?_)<;>((try simp -implicitDefEqProofs [c1,c2,c3,c4,c5,c6,hM2,e',f1',f2']);(try simp -implicitDefEqProofs(disch:=first|assumption|(try simp only[lens]);omega -splitDisjunctions) [c1,c2,c3,c4,c5,c6,hM2,e',f1',f2']))))
 ·have f1' : ¬ (M : Int) - 1 ≤ (i' : Int) := by omega
  rw [decide_eq_false (fun g=>g.elim e fun g=>f1 g.1)] at w
  (refine Sg.h ?_;try repeat' ((first|(with_reducible first|refine brA ?_|refine brE fun _=>?_|refine spl ⟨?_,?_⟩<;>intro _)|refine clo hb ?_|refine clo o1 ?_|refine clo o2 ?_|refine clo w ?_)<;>((try simp -implicitDefEqProofs [c1,c2,c3,c4,c5,c6,hM2,e',f1']);(try simp -implicitDefEqProofs(disch:=first|assumption|(try simp only[lens]);omega -splitDisjunctions) [c1,c2,c3,c4,c5,c6,hM2,e',f1']))))
end Go.Proofs.Ytfhakdonenhnbaa
