import Derived.Test.YtlcplnafkeklaaaBMnW
import Derived.Test.YtlcplnafkeklaaaBMnF
set_option linter.unusedVariables false
set_option linter.unusedSimpArgs false
set_option maxRecDepth 100000
set_option maxHeartbeats 4000000
namespace Go.Proofs.Ytlcplnafkeklaaa
open Go Go.Pv
def x8_T3 : XC:=.seq (.reg [⟨some 55,.load 25 (.tmp 3),none⟩,⟨none,.store 25 (.tmp 2) (.tmp 55),none⟩]) .ret
def x8_L2 : XC:=.seq (.seq (.reg [⟨some 33,.move (.tmp 6),none⟩,⟨some 34,.fieldAddr 25 (.tmp 1) 2,none⟩,⟨some 35,.load 23 (.tmp 34),none⟩,⟨some 36,.call ⟨.builtin .len,#[.tmp 35],#[23]⟩,none⟩,⟨some 37,.binOp .lss 3 (.tmp 33) (.tmp 36) 3,none⟩]) (.cond (.tmp 37) .skip (.exit 2))) (.seq (.block 3 (.seq (.reg [⟨some 40,.fieldAddr 25 (.tmp 1) 2,none⟩,⟨some 41,.load 23 (.tmp 40),none⟩,⟨some 42,.move (.tmp 6),none⟩,⟨some 43,.indexAddr 23 (.tmp 41) (.tmp 42),none⟩,⟨some 44,.load 55 (.tmp 43),none⟩,⟨some 7,.alloc 55,none⟩,⟨none,.store 55 (.tmp 7) (.tmp 44),none⟩]) (.seq (.reg [⟨some 45,.fieldAddr 55 (.tmp 7) 2,none⟩,⟨some 46,.load 53 (.tmp 45),none⟩,⟨some 47,.call ⟨.builtin .append,#[.const (.slice none 0 0),.tmp 46],#[53,53]⟩,none⟩,⟨some 48,.fieldAddr 55 (.tmp 7) 2,none⟩,⟨none,.store 53 (.tmp 48) (.tmp 47),none⟩]) (.reg [⟨some 49,.fieldAddr 25 (.tmp 3) 2,none⟩,⟨some 50,.load 23 (.tmp 49),none⟩,⟨some 51,.load 55 (.tmp 7),none⟩,⟨some 52,.buildSlice 23 1 #[(0,.tmp 51)],none⟩,⟨some 53,.call ⟨.builtin .append,#[.tmp 50,.tmp 52],#[23,23]⟩,none⟩,⟨some 54,.fieldAddr 25 (.tmp 3) 2,none⟩,⟨none,.store 23 (.tmp 54) (.tmp 53),none⟩])))) (.reg [⟨some 38,.move (.tmp 6),none⟩,⟨some 39,.binOp .add 3 (.tmp 38) (.const (.int .i64 1)) 3,none⟩,⟨some 6,.assign (.tmp 39),none⟩]))
def x8_T1 : XC:=.seq (.seq (.reg [⟨some 6,.assign (.const (.int .i64 0)),none⟩]) (.bloop 2 x8_L2)) (x8_T3)
def x8_L0 : XC:=.seq (.seq (.reg [⟨some 11,.move (.tmp 4),none⟩,⟨some 12,.fieldAddr 25 (.tmp 1) 1,none⟩,⟨some 13,.load 22 (.tmp 12),none⟩,⟨some 14,.call ⟨.builtin .len,#[.tmp 13],#[22]⟩,none⟩,⟨some 15,.binOp .lss 3 (.tmp 11) (.tmp 14) 3,none⟩]) (.cond (.tmp 15) .skip (.exit 0))) (.seq (.block 1 (.seq (.reg [⟨some 18,.fieldAddr 25 (.tmp 1) 1,none⟩,⟨some 19,.load 22 (.tmp 18),none⟩,⟨some 20,.move (.tmp 4),none⟩,⟨some 21,.indexAddr 22 (.tmp 19) (.tmp 20),none⟩,⟨some 22,.load 52 (.tmp 21),none⟩,⟨some 5,.alloc 52,none⟩,⟨none,.store 52 (.tmp 5) (.tmp 22),none⟩]) (.seq (.reg [⟨some 23,.fieldAddr 52 (.tmp 5) 2,none⟩,⟨some 24,.load 31 (.tmp 23),none⟩,⟨some 25,.call ⟨.builtin .append,#[.const (.slice none 0 0),.tmp 24],#[31,31]⟩,none⟩,⟨some 26,.fieldAddr 52 (.tmp 5) 2,none⟩,⟨none,.store 31 (.tmp 26) (.tmp 25),none⟩]) (.reg [⟨some 27,.fieldAddr 25 (.tmp 3) 1,none⟩,⟨some 28,.load 22 (.tmp 27),none⟩,⟨some 29,.load 52 (.tmp 5),none⟩,⟨some 30,.buildSlice 22 1 #[(0,.tmp 29)],none⟩,⟨some 31,.call ⟨.builtin .append,#[.tmp 28,.tmp 30],#[22,22]⟩,none⟩,⟨some 32,.fieldAddr 25 (.tmp 3) 1,none⟩,⟨none,.store 22 (.tmp 32) (.tmp 31),none⟩])))) (.reg [⟨some 16,.move (.tmp 4),none⟩,⟨some 17,.binOp .add 3 (.tmp 16) (.const (.int .i64 1)) 3,none⟩,⟨some 4,.assign (.tmp 17),none⟩]))
def x8 : XC:=.seq (.reg [⟨some 1,.box 25 (.tmp 0),none⟩,⟨some 2,.alloc 25,none⟩]) (.seq (.reg [⟨some 8,.fieldAddr 25 (.tmp 1) 0,none⟩,⟨some 9,.load 3 (.tmp 8),none⟩,⟨some 10,.build 25 #[(0,.tmp 9)],none⟩,⟨some 3,.alloc 25,none⟩,⟨none,.store 25 (.tmp 3) (.tmp 10),none⟩]) (.seq (.seq (.reg [⟨some 4,.assign (.const (.int .i64 0)),none⟩]) (.bloop 0 x8_L0)) (x8_T1)))
@[simp] theorem x8_s {C e s K} : type_of% (@X_at C e s K _ _ x8_T3.eq_1) ∧ type_of% (@X_at C e s K _ _ x8_L2.eq_1) ∧ type_of% (@X_at C e s K _ _ x8_T1.eq_1) ∧ type_of% (@X_at C e s K _ _ x8_L0.eq_1) ∧ type_of% (@X_at C e s K _ _ x8.eq_1):=⟨X_at x8_T3.eq_1,X_at x8_L2.eq_1,X_at x8_T1.eq_1,X_at x8_L0.eq_1,X_at x8.eq_1⟩
def an8 : Ann:=⟨[],[(2,[(3,some 2,3)],[1,2,3,6],[2,3]),(0,[(3,some 1,3)],[1,2,3,4],[1,2,3])],[]⟩
@[simp] theorem an8_a : an8.loopOf 2 = ([(3,some 2,3)],[1,2,3,6],[2,3]) ∧ an8.loopOf 0 = ([(3,some 1,3)],[1,2,3,4],[1,2,3]):=⟨rfl,rfl⟩
theorem fi8 : FI Try.prog 8 (cxA an8) x8 [.cell 2 25] Try.f8:=fiA Try.func8 mixed
theorem ownStructure_law (n : Int) (F : List Fn) (P : List Pd) (hF : F.length * 48 ≤ 140737488355328) (hP : P.length * 48 ≤ 140737488355328) (hf : ∀ f ∈ F,f.tab.length * 8 ≤ 140737488355328) (hp : ∀ p ∈ P,p.bits.length * 1 ≤ 140737488355328) : CallOK Try.prog 8 [.agg [.int .i64 n,.list (F.map fnRow),.list (P.map pdRow)]] [] (.agg [.int .i64 n,.list (F.map fnRow),.list (P.map pdRow)]) []:=by
 refine fi8.os ?_
 (refine Sg.h ?_;try repeat' ((with_reducible first|refine brA ?_|refine brE fun _=>?_|refine spl ⟨?_,?_⟩<;>intro _)<;>((try simp -implicitDefEqProofs);(try simp -implicitDefEqProofs(disch:=first|assumption|(try simp only[lens]);omega -splitDisjunctions)))))
 refine W_of fun Q hQ=>?_
 have main : ∀ k i,i + k = F.length → Q [(1,.ptr 0 0 0),(2,.ptr 1 0 0),(3,.ptr 2 0 0),(4,.int .i64 (i : Int))] [.rows 3 [[.int .i64 n,.list (F.map fnRow),.list (P.map pdRow)]],.rows 3 [[.int .i64 0,.nilsl,.nilsl]],.rows 3 [[.int .i64 n,.sl 3 0 (F.take i).length,.nilsl]],.rows 3 ((F.take i).map fnRow)]:=by
  intro k
  induction k with
  | zero=>
   intro i hi
   rw [List.take_of_length_le (by omega)]
   have hi' : ¬ (i : Int) < (F.length : Int):=by omega
   apply hQ
   clear hQ
   (refine Sg.h ?_;try repeat' ((with_reducible first|refine brA ?_|refine brE fun _=>?_|refine spl ⟨?_,?_⟩<;>intro _)<;>((try simp -implicitDefEqProofs [hi']);(try simp -implicitDefEqProofs(disch:=first|assumption|(try simp only[lens]);omega -splitDisjunctions) [hi']))))
   refine W_of fun Q hQ=>?_
   have main : ∀ k i,i + k = P.length → Q [(1,.ptr 0 0 0),(2,.ptr 1 0 0),(3,.ptr 2 0 0),(6,.int .i64 (i : Int))] [.rows 3 [[.int .i64 n,.list (F.map fnRow),.list (P.map pdRow)]],.rows 3 [[.int .i64 0,.nilsl,.nilsl]],.rows 3 [[.int .i64 n,.sl 3 0 F.length,.sl 4 0 (P.take i).length]],.rows 3 (F.map fnRow),.rows 3 ((P.take i).map pdRow)]:=by
    intro k
    induction k with
    | zero=>
     intro i hi
     rw [List.take_of_length_le (by omega)]
     have hi' : ¬ (i : Int) < (P.length : Int):=by omega
     clear hf hp
     apply hQ
     clear hQ
     (refine Sg.h ?_;try repeat' ((with_reducible first|refine brA ?_|refine brE fun _=>?_|refine spl ⟨?_,?_⟩<;>intro _)<;>((try simp -implicitDefEqProofs [hi']);(try simp -implicitDefEqProofs(disch:=first|assumption|(try simp only[lens]);omega -splitDisjunctions) [hi']))))
    | succ k ihk=>
     intro i hi
     have hil : i < P.length:=by omega
     have ihk:=ihk (i + 1) (by omega)
     rw [take_snocV hil] at ihk
     have hlt : (P.take i).length < P.length:=by rw [List.length_take];omega
     have hb:=hp _ (List.getElem_mem hil)
     rw [Nat.mul_one] at hb
     have hi' : (i : Int) < (P.length : Int):=by omega
     generalize P.take i = T at *
     generalize hx : P[i] = x at *
     have hrow : pdRow x = [.str x.name,.int .i64 x.ar,.list (x.bits.map boolRow)]:=rfl
     rw [List.map_append,List.map_singleton] at ihk
     rw [hrow] at ihk
     have hb9 : (T.length + 1) * 48 ≤ 140737488355328:=by omega
     clear hf hp
     apply hQ
     clear hQ
     (refine Sg.h ?_;try repeat' ((with_reducible first|refine brA ?_|refine brE fun _=>?_|refine spl ⟨?_,?_⟩<;>intro _)<;>((try simp -implicitDefEqProofs [hi',hil,hx,hrow,hb]);(try simp -implicitDefEqProofs(disch:=first|assumption|(try simp only[lens]);omega -splitDisjunctions) [hi',hil,hx,hrow,hb]))))
     refine ⟨by rintro row (⟨_,rfl⟩ | ⟨_,rfl⟩) <;> simp [isCell],?_⟩
     all_goals first|exact ihk|(refine at2 ihk ?_ ?_<;>simp;done)|(exfalso;first|omega|(simp_all;done)|(simp_all;omega))
   all_goals first|exact main P.length 0 (Nat.zero_add _)|(refine at2 main P.length 0 (Nat.zero_add _) ?_ ?_<;>simp;done)|(exfalso;first|omega|(simp_all;done)|(simp_all;omega))
  | succ k ihk=>
   intro i hi
   have hil : i < F.length:=by omega
   have ihk:=ihk (i + 1) (by omega)
   rw [take_snocV hil] at ihk
   have hlt : (F.take i).length < F.length:=by rw [List.length_take];omega
   have hb:=hf _ (List.getElem_mem hil)
   have hi' : (i : Int) < (F.length : Int):=by omega
   generalize F.take i = T at *
   generalize hx : F[i] = x at *
   have hrow : fnRow x = [.str x.name,.int .i64 x.ar,.list (x.tab.map intRow)]:=rfl
   rw [List.map_append,List.map_singleton] at ihk
   rw [hrow] at ihk
   have hb9 : (T.length + 1) * 48 ≤ 140737488355328:=by omega
   clear hf hp
   apply hQ
   clear hQ
   (refine Sg.h ?_;try repeat' ((with_reducible first|refine brA ?_|refine brE fun _=>?_|refine spl ⟨?_,?_⟩<;>intro _)<;>((try simp -implicitDefEqProofs [hi',hil,hx,hrow,hb]);(try simp -implicitDefEqProofs(disch:=first|assumption|(try simp only[lens]);omega -splitDisjunctions) [hi',hil,hx,hrow,hb]))))
   all_goals first|exact ihk|(refine at2 ihk ?_ ?_<;>simp;done)|(exfalso;first|omega|(simp_all;done)|(simp_all;omega))
 all_goals first|exact main F.length 0 (Nat.zero_add _)|(refine at2 main F.length 0 (Nat.zero_add _) ?_ ?_<;>simp;done)|(exfalso;first|omega|(simp_all;done)|(simp_all;omega))
end Go.Proofs.Ytlcplnafkeklaaa
namespace Go.Proofs.Ytlcplnafkeklaaa
open Go Go.Pv
abbrev Ev:=List (ByteArray × Int)
def Keys (L : Ev) : Prop:=(L.map Prod.fst).Nodup
theorem lookI_cons (x : ByteArray) (p : ByteArray × Int) (r : Ev) : lookI x (p :: r) = if x = p.1 then some p.2 else lookI x r:=rfl
theorem map_eraseM {α β : Type} (f : α → β) : ∀ (l : List α) (j : Nat),(l.map f).eraseIdx j = (l.eraseIdx j).map f
 | [],_=>rfl
 | _ :: _,0=>rfl
 | a :: r,j + 1=>by rw [List.map_cons,List.eraseIdx_cons_succ,List.eraseIdx_cons_succ,List.map_cons,map_eraseM f r j]
theorem env_put (x : ByteArray) (v : Int) (L : Ev) (hk : Keys L) : ∃ L',(∀ r,findP (.str x) (mapI L) 0 = some r → putP (.str x) (.int .i64 v) (mapI L) r = mapI L') ∧ Keys L' ∧ ∀ y,lookI y L' = if y = x then some v else lookI y L:=by
 have gen : ∀ (L : Ev) (i : Nat),Keys L → (∀ q ∈ L,q.1 ≠ x) ∧ findP (.str x) (mapI L) i = some none ∨ ∃ j m,findP (.str x) (mapI L) i = some (some (i + j,m)) ∧ j < L.length ∧ Keys (L.set j (x,v)) ∧ (L.set j (x,v)).map Prod.fst = L.map Prod.fst ∧ ∀ y,lookI y (L.set j (x,v)) = if y = x then some v else lookI y L:=by
  intro L
  induction L with
  | nil=>intro i _;exact .inl ⟨fun q h=>(by cases h),rfl⟩
  | cons p r ih=>
   intro i hk
   have hkr : Keys r:=by unfold Keys at hk ⊢;rw [List.map_cons,List.nodup_cons] at hk;exact hk.2
   by_cases h : x = p.1
   ·refine .inr ⟨0,.int .i64 p.2,by simp [mapI,findP,keyEq,h],by simp,?_,?_,fun y => ?_⟩
    ·unfold Keys at hk ⊢;simpa [h] using hk
    ·simp [h]
    ·rw [List.set_cons_zero,lookI_cons,lookI_cons]
     dsimp only
     by_cases hy : y = x
     ·rw [if_pos hy,if_pos hy]
     ·rw [if_neg hy,if_neg hy,if_neg (fun g=>hy (g.trans h.symm))]
   ·rcases ih (i + 1) hkr with ⟨h1,h2⟩ | ⟨j,m,h1,h2,h3,h4,h5⟩
    ·refine .inl ⟨fun q hq => ?_,?_⟩
     ·cases hq with
      | head=>exact fun g=>h g.symm
      | tail _ hq=>exact h1 q hq
     ·simpa [mapI,findP,keyEq,h] using h2
    ·refine .inr ⟨j + 1,m,?_,by simp; omega,?_,?_,fun y => ?_⟩
     ·rw [show i + (j + 1) = i + 1 + j by omega]
      simpa [mapI,findP,keyEq,h] using h1
     ·unfold Keys at hk ⊢
      rw [List.set_cons_succ,List.map_cons,h4]
      simpa using hk
     ·rw [List.set_cons_succ,List.map_cons,h4,List.map_cons]
     ·rw [List.set_cons_succ,lookI_cons,lookI_cons,h5]
      by_cases hy : y = p.1
      ·rw [if_pos hy,if_neg (fun g=>h (g.symm.trans hy)),if_pos hy]
      ·rw [if_neg hy,if_neg hy]
 rcases gen L 0 hk with ⟨h1,h2⟩ | ⟨j,m,h1,h2,h3,h4,h5⟩
 ·refine ⟨L ++ [(x,v)],fun r hr => ?_,?_,fun y => ?_⟩
  ·rw [h2] at hr
   cases hr
   rw [putP_none,mapI_snoc]
  ·unfold Keys at hk ⊢
   rw [List.map_append,List.nodup_append]
   refine ⟨hk,by simp,fun a ha b hb=>?_⟩
   obtain ⟨q,hq,rfl⟩:=List.mem_map.1 ha
   simp only [List.map_cons,List.map_nil,List.mem_singleton] at hb
   rw [hb]
   exact h1 q hq
  ·clear h2 hk
   induction L with
   | nil=>simp [lookI]
   | cons p r ih=>
    rw [List.cons_append,lookI_cons,lookI_cons,ih fun q hq=>h1 q (by simp [hq])]
    by_cases hy : y = p.1
    ·rw [if_pos hy,if_neg (fun g=>h1 p (by simp) (hy.symm.trans g)),if_pos hy]
    ·rw [if_neg hy,if_neg hy]
 ·refine ⟨L.set j (x,v),fun r hr => ?_,h3,h5⟩
  rw [h1] at hr
  cases hr
  rw [putP_some,Nat.zero_add]
  simp [mapI,List.map_set]
theorem env_del (x : ByteArray) (L : Ev) (hk : Keys L) : ∃ L',(∀ r,findP (.str x) (mapI L) 0 = some r → delP (mapI L) r = mapI L') ∧ Keys L' ∧ ∀ y,lookI y L' = if y = x then none else lookI y L:=by
 have gen : ∀ (L : Ev) (i : Nat),Keys L → (∀ q ∈ L,q.1 ≠ x) ∧ findP (.str x) (mapI L) i = some none ∨ ∃ j m,findP (.str x) (mapI L) i = some (some (i + j,m)) ∧ Keys (L.eraseIdx j) ∧ (∀ q ∈ L.eraseIdx j,q ∈ L) ∧ ∀ y,lookI y (L.eraseIdx j) = if y = x then none else lookI y L:=by
  intro L
  induction L with
  | nil=>intro i _;exact .inl ⟨fun q h=>(by cases h),rfl⟩
  | cons p r ih=>
   intro i hk
   have hk2:=hk
   unfold Keys at hk2
   rw [List.map_cons,List.nodup_cons] at hk2
   have hkr : Keys r:=hk2.2
   by_cases h : x = p.1
   ·refine .inr ⟨0,.int .i64 p.2,by simp [mapI,findP,keyEq,h],by simpa using hkr,fun q hq => by simp at hq; simp [hq],fun y => ?_⟩
    rw [List.eraseIdx_cons_zero,lookI_cons]
    by_cases hy : y = x
    ·rw [if_pos hy]
     have : ∀ r : Ev,p.1 ∉ r.map Prod.fst → lookI p.1 r = none:=by
      intro r
      induction r with
      | nil=>intro _;rfl
      | cons a s ih=>
       intro hn
       rw [List.map_cons,List.mem_cons,not_or] at hn
       rw [lookI_cons,if_neg hn.1,ih hn.2]
     rw [hy,h,this r hk2.1]
    ·rw [if_neg hy,if_neg (fun g=>hy (g.trans h.symm))]
   ·rcases ih (i + 1) hkr with ⟨h1,h2⟩ | ⟨j,m,h1,h3,h4,h5⟩
    ·refine .inl ⟨fun q hq => ?_,?_⟩
     ·cases hq with
      | head=>exact fun g=>h g.symm
      | tail _ hq=>exact h1 q hq
     ·simpa [mapI,findP,keyEq,h] using h2
    ·refine .inr ⟨j + 1,m,?_,?_,fun q hq => ?_,fun y => ?_⟩
     ·rw [show i + (j + 1) = i + 1 + j by omega]
      simpa [mapI,findP,keyEq,h] using h1
     ·unfold Keys at h3 ⊢
      rw [List.eraseIdx_cons_succ,List.map_cons,List.nodup_cons]
      refine ⟨fun g=>hk2.1 ?_,h3⟩
      obtain ⟨q,hq,e⟩:=List.mem_map.1 g
      exact List.mem_map.2 ⟨q,h4 q hq,e⟩
     ·rw [List.eraseIdx_cons_succ] at hq
      cases hq with
      | head=>simp
      | tail _ hq=>exact List.mem_cons_of_mem _ (h4 q hq)
     ·rw [List.eraseIdx_cons_succ,lookI_cons,lookI_cons,h5]
      by_cases hy : y = p.1
      ·rw [if_pos hy,if_neg (fun g=>h (g.symm.trans hy)),if_pos hy]
      ·rw [if_neg hy,if_neg hy]
 rcases gen L 0 hk with ⟨h1,h2⟩ | ⟨j,m,h1,h3,h4,h5⟩
 ·refine ⟨L,fun r hr => ?_,hk,fun y => ?_⟩
  ·rw [h2] at hr
   cases hr
   rw [delP_none]
  ·split
   ·rename_i hy
    rw [hy]
    clear h2 hk
    induction L with
    | nil=>rfl
    | cons p r ih=>
     rw [lookI_cons,if_neg (fun g=>h1 p (by simp) g.symm),ih fun q hq=>h1 q (by simp [hq])]
   ·rfl
 ·refine ⟨L.eraseIdx j,fun r hr => ?_,h3,h5⟩
  rw [h1] at hr
  cases hr
  rw [delP_some,Nat.zero_add]
  unfold mapI
  exact map_eraseM _ _ _
open Classical in
noncomputable def putI (x : ByteArray) (v : Int) (L : Ev) : Ev:=if h : Keys L then (env_put x v L h).choose else L
open Classical in
noncomputable def delI (x : ByteArray) (L : Ev) : Ev:=if h : Keys L then (env_del x L h).choose else L
section
variable {x : ByteArray} {v : Int} {L : Ev} (h : Keys L)
include h
theorem putI_put {r : Option (Nat × PV)} (hr : findP (.str x) (mapI L) 0 = some r) : putP (.str x) (.int .i64 v) (mapI L) r = mapI (putI x v L):=by
 unfold putI;rw [dif_pos h];exact (env_put x v L h).choose_spec.1 r hr
theorem putI_keys : Keys (putI x v L):=by unfold putI;rw [dif_pos h];exact (env_put x v L h).choose_spec.2.1
theorem putI_look (y : ByteArray) : lookI y (putI x v L) = if y = x then some v else lookI y L:=by unfold putI;rw [dif_pos h];exact (env_put x v L h).choose_spec.2.2 y
theorem delI_del {r : Option (Nat × PV)} (hr : findP (.str x) (mapI L) 0 = some r) : delP (mapI L) r = mapI (delI x L):=by
 unfold delI;rw [dif_pos h];exact (env_del x L h).choose_spec.1 r hr
theorem delI_keys : Keys (delI x L):=by unfold delI;rw [dif_pos h];exact (env_del x L h).choose_spec.2.1
theorem delI_look (y : ByteArray) : lookI y (delI x L) = if y = x then none else lookI y L:=by unfold delI;rw [dif_pos h];exact (env_del x L h).choose_spec.2.2 y
end
end Go.Proofs.Ytlcplnafkeklaaa
namespace Go.Proofs.Ytlcplnafkeklaaa
open Go Go.Pv
def updE (E : ByteArray → Int) (x : ByteArray) (v : Int) : ByteArray → Int:=fun y=>if y = x then v else E y
def valH (N : Int) (F : List Fn) (P : List Pd) (k : Int) (nm : ByteArray) (ws : List Wd) (vs : List ((ByteArray → Int) → Bool)) (E : ByteArray → Int) : Bool:=
 if k = 1 then ((predAt nm P).getD default).bits.getD (placeV N F E ws).toNat false
 else if k = 2 then decide (wordV N F E (ws.getD 0 default) = wordV N F E (ws.getD 1 default))
 else if k = 3 then true
 else if k = 5 then !(vs.getD 0 fun _=>false) E
 else if k = 6 then (vs.getD 0 fun _=>false) E && (vs.getD 1 fun _=>false) E
 else if k = 7 then (vs.getD 0 fun _=>false) E || (vs.getD 1 fun _=>false) E
 else if k = 8 then !(vs.getD 0 fun _=>false) E || (vs.getD 1 fun _=>false) E
 else if k = 9 then (List.range N.toNat).all fun x=>(vs.getD 0 fun _=>false) (updE E nm (x : Int))
 else if k = 10 then (List.range N.toNat).any fun x=>(vs.getD 0 fun _=>false) (updE E nm (x : Int))
 else false
mutual
def valV (N : Int) (F : List Fn) (P : List Pd) : Ex → (ByteArray → Int) → Bool
 | .mk k nm ws l=>valH N F P k nm ws (valsV N F P l)
def valsV (N : Int) (F : List Fn) (P : List Pd) : List Ex → List ((ByteArray → Int) → Bool)
 | []=>[]
 | e :: r=>valV N F P e :: valsV N F P r
end
theorem valsV_eq (N : Int) (F : List Fn) (P : List Pd) (l : List Ex) : valsV N F P l = l.map (valV N F P):=by
 induction l with
 | nil=>rfl
 | cons a r ih=>rw [valsV,ih];rfl
theorem valV_eq (N : Int) (F : List Fn) (P : List Pd) (e : Ex) : valV N F P e = valH N F P e.k e.nm e.words (e.kids.map (valV N F P)):=by
 cases e with | mk k a w l=>rw [valV,valsV_eq];rfl
def exH (F : List Fn) (P : List Pd) (k : Int) (nm : ByteArray) (ws : List Wd) (kc : Nat) : Bool:=
 wordsOkF F ws && decide (1 ≤ k ∧ k ≤ 10 ∧ (kc : Int) = kidsX k ∧ (k = 2 → ws.length = 2)) && (!decide (k = 1) || (predAt nm P).any fun p=>decide (p.ar = (ws.length : Int)))
mutual
def exOk (F : List Fn) (P : List Pd) : Ex → Bool
 | .mk k nm ws l=>exH F P k nm ws l.length && exsOk F P l
def exsOk (F : List Fn) (P : List Pd) : List Ex → Bool
 | []=>true
 | e :: r=>exOk F P e && exsOk F P r
end
theorem exOk_eq (F : List Fn) (P : List Pd) (e : Ex) : exOk F P e = (exH F P e.k e.nm e.words e.kids.length && exsOk F P e.kids):=by
 cases e with | mk k a w l=>rw [exOk];rfl
theorem exsOk_mem {F : List Fn} {P : List Pd} : ∀ {l : List Ex},exsOk F P l = true → ∀ w ∈ l,exOk F P w = true
 | [],_,w,h=>by cases h
 | a :: r,h,w,hw=>by
  rw [exsOk,Bool.and_eq_true] at h
  cases hw with
  | head=>exact h.1
  | tail _ hw=>exact exsOk_mem h.2 w hw
def PredsOk (N : Int) (P : List Pd) : Prop:=∀ f ∈ P,bitF N f = 0
theorem bitF_zero {N : Int} {f : Pd} (h : bitF N f = 0) : 0 ≤ f.ar ∧ f.ar ≤ 3 ∧ (f.bits.length : Int) = N ^ f.ar.toNat:=by
 unfold bitF at h
 split at h
 ·cases h
 rename_i h1
 split at h
 ·cases h
 rename_i h2
 exact ⟨by omega,by omega,Decidable.not_not.1 h2⟩
theorem predAt_mem {x : ByteArray} {F : List Pd} {f : Pd} (h : predAt x F = some f) : f ∈ F:=List.mem_of_find?_eq_some h
def stE (L : Ev) : Store:=[.map (mapI L)]
attribute [simp] stE
noncomputable def loopS (step : Ev → Bool × Ev) (nm : ByteArray) (all : Bool) : Nat → Nat → Ev → Bool × Ev
 | 0,_,L=>(all,L)
 | k + 1,x,L=>if (step (putI nm (x : Int) L)).1 ≠ all then (!all,(step (putI nm (x : Int) L)).2) else loopS step nm all k (x + 1) (step (putI nm (x : Int) L)).2
noncomputable def backI (nm : ByteArray) (before : Option Int) (L : Ev) : Ev:=match before with
 | some v=>putI nm v (delI nm L)
 | none=>delI nm L
noncomputable def valHS (N : Int) (F : List Fn) (P : List Pd) (k : Int) (nm : ByteArray) (ws : List Wd) (vs : List (Ev → Bool × Ev)) (L : Ev) : Bool × Ev:=
 if k = 1 then (((predAt nm P).getD default).bits.getD (placeV N F (envI L) ws).toNat false,L)
 else if k = 2 then (decide (wordV N F (envI L) (ws.getD 0 default) = wordV N F (envI L) (ws.getD 1 default)),L)
 else if k = 3 then (true,L)
 else if k = 5 then (!((vs.getD 0 fun L=>(false,L)) L).1,((vs.getD 0 fun L=>(false,L)) L).2)
 else if k = 6 then (if ((vs.getD 0 fun L=>(false,L)) L).1 = true then (vs.getD 1 fun L=>(false,L)) ((vs.getD 0 fun L=>(false,L)) L).2 else (false,((vs.getD 0 fun L=>(false,L)) L).2))
 else if k = 7 then (if ((vs.getD 0 fun L=>(false,L)) L).1 = true then (true,((vs.getD 0 fun L=>(false,L)) L).2) else (vs.getD 1 fun L=>(false,L)) ((vs.getD 0 fun L=>(false,L)) L).2)
 else if k = 8 then (if ((vs.getD 0 fun L=>(false,L)) L).1 = true then (vs.getD 1 fun L=>(false,L)) ((vs.getD 0 fun L=>(false,L)) L).2 else (true,((vs.getD 0 fun L=>(false,L)) L).2))
 else if k = 9 ∨ k = 10 then ((loopS (vs.getD 0 fun L=>(false,L)) nm (decide (k = 9)) N.toNat 0 L).1,backI nm (lookI nm L) (loopS (vs.getD 0 fun L=>(false,L)) nm (decide (k = 9)) N.toNat 0 L).2)
 else (false,L)
mutual
noncomputable def valS (N : Int) (F : List Fn) (P : List Pd) : Ex → Ev → Bool × Ev
 | .mk k nm ws l=>valHS N F P k nm ws (valsS N F P l)
noncomputable def valsS (N : Int) (F : List Fn) (P : List Pd) : List Ex → List (Ev → Bool × Ev)
 | []=>[]
 | e :: r=>valS N F P e :: valsS N F P r
end
theorem valsS_eq (N : Int) (F : List Fn) (P : List Pd) (l : List Ex) : valsS N F P l = l.map (valS N F P):=by
 induction l with
 | nil=>rfl
 | cons a r ih=>rw [valsS,ih];rfl
theorem valS_eq (N : Int) (F : List Fn) (P : List Pd) (e : Ex) : valS N F P e = valHS N F P e.k e.nm e.words (e.kids.map (valS N F P)):=by
 cases e with | mk k a w l=>rw [valS,valsS_eq];rfl
def Tells (st : Ev → Bool × Ev) (v : (ByteArray → Int) → Bool) : Prop:=∀ L,Keys L → (st L).1 = v (envI L) ∧ Keys (st L).2 ∧ ∀ y,lookI y (st L).2 = lookI y L
theorem envI_of {L L' : Ev} (h : ∀ y,lookI y L' = lookI y L) : envI L' = envI L:=by funext x;unfold envI;rw [h]
theorem envI_put {x : ByteArray} {v : Int} {L : Ev} (h : Keys L) : envI (putI x v L) = updE (envI L) x v:=by
 funext y;unfold envI updE;rw [putI_look h];split <;> rfl
theorem loopS_spec {st : Ev → Bool × Ev} {v : (ByteArray → Int) → Bool} (hs : Tells st v) (nm : ByteArray) (all : Bool) (E : ByteArray → Int) : ∀ (k x : Nat) (L : Ev),Keys L → (∀ y,y ≠ nm → envI L y = E y) →
  (loopS st nm all k x L).1 = (if (List.range' x k).all (fun i=>v (updE E nm (i : Int)) == all) = true then all else !all) ∧ Keys (loopS st nm all k x L).2 ∧ ∀ y,y ≠ nm → lookI y (loopS st nm all k x L).2 = lookI y L
 | 0,x,L,hk,_=>⟨by simp [loopS],hk,fun y _=>rfl⟩
 | k + 1,x,L,hk,hE=>by
  have e : updE (envI L) nm (x : Int) = updE E nm (x : Int):=by
   funext y
   unfold updE
   split
   ·rfl
   ·rename_i hy;exact hE y hy
  obtain ⟨h1,h2,h3⟩:=hs (putI nm (x : Int) L) (putI_keys hk)
  rw [envI_put hk,e] at h1
  have h4 : ∀ y,y ≠ nm → lookI y (st (putI nm (x : Int) L)).2 = lookI y L:=fun y hy=>by rw [h3,putI_look hk,if_neg hy]
  rw [loopS,List.range'_succ,List.all_cons]
  by_cases hb : (st (putI nm (x : Int) L)).1 = all
  ·rw [if_neg (fun g => g hb)]
   have ih:=loopS_spec hs nm all E k (x + 1) (st (putI nm (x : Int) L)).2 h2 fun y hy=>by
    unfold envI;rw [h4 y hy];exact hE y hy
   rw [h1] at hb
   rw [hb,beq_self_eq_true,Bool.true_and]
   exact ⟨ih.1,ih.2.1,fun y hy=>(ih.2.2 y hy).trans (h4 y hy)⟩
  ·rw [if_pos hb]
   rw [h1] at hb
   rw [beq_eq_false_iff_ne.2 hb,Bool.false_and]
   exact ⟨rfl,h2,h4⟩
theorem valS_spec (N : Int) (F : List Fn) (P : List Pd) (e : Ex) : Tells (valS N F P e) (valV N F P e):=by
 induction e using Ex.ind with
 | h e ih=>
  have hg : ∀ i,Tells ((e.kids.map (valS N F P)).getD i fun L=>(false,L)) ((e.kids.map (valV N F P)).getD i fun _=>false):=by
   intro i
   by_cases hi : i < e.kids.length
   ·have := ih e.kids[i] (List.getElem_mem hi)
    rw [List.getD_eq_getElem?_getD,List.getD_eq_getElem?_getD,List.getElem?_map,List.getElem?_map,List.getElem?_eq_getElem hi]
    exact this
   ·rw [List.getD_eq_getElem?_getD,List.getD_eq_getElem?_getD,List.getElem?_map,List.getElem?_map,List.getElem?_eq_none (by omega)]
    exact fun L hk=>⟨rfl,hk,fun _=>rfl⟩
  rw [valS_eq,valV_eq]
  unfold valHS valH
  generalize (e.kids.map (valS N F P)) = gs at *
  generalize (e.kids.map (valV N F P)) = vs at *
  have hg0:=hg 0
  have hg1:=hg 1
  generalize (gs.getD 0 fun L=>(false,L)) = g0 at *
  generalize (gs.getD 1 fun L=>(false,L)) = g1 at *
  generalize (vs.getD 0 fun _=>false) = v0 at *
  generalize (vs.getD 1 fun _=>false) = v1 at *
  clear hg ih
  intro L hk
  dsimp only
  obtain ⟨a1,a2,a3⟩:=hg0 L hk
  obtain ⟨b1,b2,b3⟩:=hg1 _ a2
  rw [envI_of a3] at b1
  have b4 : ∀ y,lookI y (g1 (g0 L).2).2 = lookI y L:=fun y=>(b3 y).trans (a3 y)
  by_cases k1 : e.k = 1
  ·rw [if_pos k1,if_pos k1];exact ⟨rfl,hk,fun _=>rfl⟩
  rw [if_neg k1,if_neg k1]
  by_cases k2 : e.k = 2
  ·rw [if_pos k2,if_pos k2];exact ⟨rfl,hk,fun _=>rfl⟩
  rw [if_neg k2,if_neg k2]
  by_cases k3 : e.k = 3
  ·rw [if_pos k3,if_pos k3];exact ⟨rfl,hk,fun _=>rfl⟩
  rw [if_neg k3,if_neg k3]
  by_cases k5 : e.k = 5
  ·rw [if_pos k5,if_pos k5];exact ⟨by dsimp only;rw [a1],a2,a3⟩
  rw [if_neg k5,if_neg k5]
  by_cases k6 : e.k = 6
  ·rw [if_pos k6,if_pos k6,← a1]
   cases (g0 L).1 with
   | true=>rw [if_pos rfl];exact ⟨by rw [b1];rfl,b2,b4⟩
   | false=>rw [if_neg (by simp)];exact ⟨rfl,a2,a3⟩
  rw [if_neg k6,if_neg k6]
  by_cases k7 : e.k = 7
  ·rw [if_pos k7,if_pos k7,← a1]
   cases (g0 L).1 with
   | true=>rw [if_pos rfl];exact ⟨rfl,a2,a3⟩
   | false=>rw [if_neg (by simp)];exact ⟨by rw [b1];rfl,b2,b4⟩
  rw [if_neg k7,if_neg k7]
  by_cases k8 : e.k = 8
  ·rw [if_pos k8,if_pos k8,← a1]
   cases (g0 L).1 with
   | true=>rw [if_pos rfl];exact ⟨by rw [b1];rfl,b2,b4⟩
   | false=>rw [if_neg (by simp)];exact ⟨rfl,a2,a3⟩
  rw [if_neg k8,if_neg k8]
  obtain ⟨l1,l2,l3⟩:=loopS_spec hg0 e.nm (decide (e.k = 9)) (envI L) N.toNat 0 L hk fun _ _=>rfl
  rw [← List.range_eq_range'] at l1
  generalize loopS g0 e.nm (decide (e.k = 9)) N.toNat 0 L = lo at *
  have hback : Keys (backI e.nm (lookI e.nm L) lo.2) ∧ ∀ y,lookI y (backI e.nm (lookI e.nm L) lo.2) = lookI y L:=by
   unfold backI
   cases hb : lookI e.nm L with
   | none=>
    refine ⟨delI_keys l2,fun y=>?_⟩
    dsimp only
    rw [delI_look l2]
    by_cases hy : y = e.nm
    ·rw [if_pos hy,hy,hb]
    ·rw [if_neg hy,l3 y hy]
   | some v=>
    refine ⟨putI_keys (delI_keys l2),fun y=>?_⟩
    dsimp only
    rw [putI_look (delI_keys l2),delI_look l2]
    by_cases hy : y = e.nm
    ·rw [if_pos hy,hy,hb]
    ·rw [if_neg hy,if_neg hy,l3 y hy]
  by_cases k9 : e.k = 9
  ·rw [if_pos (.inl k9),if_pos k9]
   refine ⟨?_,hback⟩
   dsimp only
   rw [l1,decide_eq_true k9]
   simp only [beq_true,Bool.not_true]
   cases (List.range N.toNat).all fun i=>v0 (updE (envI L) e.nm (i : Int)) <;> rfl
  rw [if_neg k9]
  by_cases k10 : e.k = 10
  ·rw [if_pos (.inr k10),if_pos k10]
   refine ⟨?_,hback⟩
   dsimp only
   rw [l1,decide_eq_false k9,List.any_eq_not_all_not]
   simp only [beq_false,Bool.not_false]
   cases (List.range N.toNat).all fun i=>!v0 (updE (envI L) e.nm (i : Int)) <;> rfl
  rw [if_neg (fun g=>g.elim k9 k10),if_neg k10]
  exact ⟨rfl,hk,fun _=>rfl⟩
end Go.Proofs.Ytlcplnafkeklaaa
