import Derived.Test.YtbimioonhfhflaaDFbA
import Derived.Test.YtbimioonhfhflaaDPvQg
set_option linter.unusedVariables false
set_option linter.unusedSimpArgs false
set_option maxRecDepth 100000
set_option maxHeartbeats 4000000
namespace Go.Proofs.Ytbimioonhfhflaa
open Go Go.Pv
def mapW (L : Mw) : List (PV × PV):=L.map fun p=>(.str p.1,.agg (wrd p.2))
theorem findP_wd (s : ByteArray) : ∀ (L : Mw) (i : Nat),(lookW s L = none → findP (.str s) (mapW L) i = some none) ∧ ∀ m,lookW s L = some m → ∃ j,findP (.str s) (mapW L) i = some (some (i + j,.agg (wrd m))) ∧ (mapW L)[j]? = some (.str s,.agg (wrd m))
 | [],i=>⟨fun _=>rfl,fun m h=>by cases h⟩
 | p :: r,i=>by
  have ih:=findP_wd s r (i + 1)
  by_cases h : s = p.1
  ·refine ⟨fun hn => ?_,fun m hm => ?_⟩
   ·unfold lookW at hn;rw [if_pos h] at hn;cases hn
   ·unfold lookW at hm
    rw [if_pos h] at hm
    cases hm
    refine ⟨0,?_,by simp [mapW,h]⟩
    simp [mapW,findP,keyEq,h]
  ·refine ⟨fun hn => ?_,fun m hm => ?_⟩
   ·unfold lookW at hn
    rw [if_neg h] at hn
    have:=ih.1 hn
    simpa [mapW,findP,keyEq,h] using this
   ·unfold lookW at hm
    rw [if_neg h] at hm
    obtain ⟨j,h1,h2⟩:=ih.2 m hm
    refine ⟨j + 1,?_,by simpa [mapW] using h2⟩
    rw [show i + (j + 1) = i + 1 + j by omega]
    simpa [mapW,findP,keyEq,h] using h1
theorem lookD_mem {L : Mw} {y : ByteArray} {v : Wd} (h : lookW y L = some v) : (y,v) ∈ L:=by
 induction L with
 | nil=>cases h
 | cons p r ih=>
  rw [lookW] at h
  split at h
  ·rename_i he;cases h;rw [he];simp
  ·exact List.mem_cons_of_mem _ (ih h)
@[simp] theorem mapW_ren {ρ : List Nat} (L : Mw) : (mapW L).map (fun p=>(renN ρ 4 p.1,renN ρ 4 p.2)) = mapW L:=by simp [mapW]
@[simp] theorem mapW_refs (L : Mw) : ((mapW L).flatMap fun p=>refsN 4 p.2) = []:=by
 induction L with
 | nil=>rfl
 | cons a r ih=>
  have h : refsN 4 (PV.agg (wrd a.2)) = []:=by simp
  show refsN 4 (PV.agg (wrd a.2)) ++ _ = []
  rw [h];exact ih
@[simp] theorem mapW_deref {s : Store} {n : Nat} (L : Mw) : (mapW L).map (fun p=>(deref s (n + 1) p.1,deref s (n + 1) p.2)) = mapW L:=by simp [mapW]
def x43_T1 : XC:=.seq (.reg [⟨some 39,.load 31 (.tmp 7),none⟩,⟨none,.store 31 (.tmp 4) (.tmp 39),none⟩]) .ret
def x43_L0 : XC:=.seq (.reg [⟨some 27,.binOp .lss 3 (.tmp 26) (.tmp 25) 3,none⟩]) (.seq (.cond (.tmp 27) .skip (.exit 0)) (.seq (.block 1 (.seq (.reg [⟨some 28,.indexAddr 26 (.tmp 24) (.tmp 26),none⟩,⟨some 29,.load 31 (.tmp 28),none⟩,⟨some 9,.alloc 31,none⟩,⟨none,.store 31 (.tmp 9) (.tmp 29),none⟩]) (.drawn 8 [⟨some 30,.fieldAddr 31 (.tmp 7) 1,none⟩,⟨some 31,.load 26 (.tmp 30),none⟩,⟨some 32,.load 31 (.tmp 9),none⟩,⟨some 33,.move (.tmp 1),none⟩,⟨some 34,.call ⟨.value (.func 43),#[.tmp 32,.tmp 33],#[31,65]⟩,none⟩,⟨some 35,.buildSlice 26 1 #[(0,.tmp 34)],none⟩,⟨some 36,.call ⟨.builtin .append,#[.tmp 31,.tmp 35],#[26,26]⟩,none⟩,⟨some 37,.fieldAddr 31 (.tmp 7) 1,none⟩,⟨none,.store 26 (.tmp 37) (.tmp 36),none⟩]))) (.reg [⟨some 38,.binOp .add 3 (.tmp 26) (.const (.int .i64 1)) 3,none⟩,⟨some 26,.move (.tmp 38),none⟩])))
def x43 : XC:=.seq (.reg [⟨some 2,.box 31 (.tmp 0),none⟩,⟨some 4,.alloc 31,none⟩]) (.seq (.seq (.reg [⟨some 11,.move (.tmp 1),none⟩,⟨some 12,.fieldAddr 31 (.tmp 2) 0,none⟩,⟨some 13,.load 9 (.tmp 12),none⟩,⟨some 14,.lookup 65 (.tmp 11) (.tmp 13) true,none⟩,⟨some 10,.move (.tmp 14),none⟩,⟨some 15,.extract (.tmp 10) 0,none⟩,⟨some 16,.extract (.tmp 10) 1,none⟩,⟨some 5,.alloc 31,none⟩,⟨none,.store 31 (.tmp 5) (.tmp 15),none⟩,⟨some 6,.assign (.tmp 16),none⟩]) (.seq (.reg [⟨some 17,.move (.tmp 6),none⟩]) (.cond (.tmp 17) (.seq (.reg [⟨some 18,.load 31 (.tmp 5),none⟩,⟨some 19,.call ⟨.value (.func 69),#[.tmp 18],#[31]⟩,none⟩,⟨none,.store 31 (.tmp 4) (.tmp 19),none⟩]) .ret) .skip))) (.seq (.reg [⟨some 20,.fieldAddr 31 (.tmp 2) 0,none⟩,⟨some 21,.load 9 (.tmp 20),none⟩,⟨some 22,.build 31 #[(0,.tmp 21)],none⟩,⟨some 7,.alloc 31,none⟩,⟨none,.store 31 (.tmp 7) (.tmp 22),none⟩]) (.seq (.seq (.reg [⟨some 23,.fieldAddr 31 (.tmp 2) 1,none⟩,⟨some 24,.load 26 (.tmp 23),none⟩,⟨some 25,.call ⟨.builtin .len,#[.tmp 24],#[26]⟩,none⟩,⟨some 26,.move (.const (.int .i64 0)),none⟩]) (.bloop 0 x43_L0)) (x43_T1))))
@[simp] theorem x43_s {C e s K} : type_of% (@X_at C e s K _ _ x43_T1.eq_1) ∧ type_of% (@X_at C e s K _ _ x43_L0.eq_1) ∧ type_of% (@X_at C e s K _ _ x43.eq_1):=⟨X_at x43_T1.eq_1,X_at x43_L0.eq_1,X_at x43.eq_1⟩
def an43 : Ann:=⟨[(8,.mix 6)],[(0,[(7,some 1,2)],[1,4,7,24,25,26],[4,7])],[]⟩
@[simp] theorem an43_a : an43.clsOf 8 = .mix 6 ∧ an43.frzOf 8 = [] ∧ an43.loopOf 0 = ([(7,some 1,2)],[1,4,7,24,25,26],[4,7]):=⟨rfl,rfl,rfl⟩
theorem fi43 : FI Try.prog 43 (cxA an43) x43 [.cell 4 31] Try.f43:=fiA Try.func43 mixed
theorem PutWord_first (L : Mw) (hL : ∀ p ∈ L,szW p.2 ≤ 30000) (w : Wd) : szW w ≤ 30000 → CallOK Try.prog 43 [.agg (wrd w),.imap (mapW L)] [] (.agg (wrd (putW L w))) []:=by
 induction w using Wd.ind with
 | h w ih=>
  intro hsz
  have he:=wrd_eq w
  obtain ⟨f1,f2⟩:=findP_wd w.nm L 0
  rw [putW_eq]
  cases hl : lookW w.nm L with
  | some v=>
   obtain ⟨j,f3,f4⟩:=f2 v hl
   have hvm : szW v ≤ 30000:=hL _ (lookD_mem hl)
   have hc:=CopyWord_first v hvm
   refine fi43.op ?_
   (refine Sg.h ?_;try repeat' ((first|(with_reducible first|refine brA ?_|refine brE fun _=>?_|refine spl ⟨?_,?_⟩<;>intro _)|refine clo hc ?_)<;>((try simp -implicitDefEqProofs(disch:=first|assumption|(try simp only[lens]);omega -splitDisjunctions) [f3]))))
  | none=>
   have f1:=f1 hl
   dsimp only
   refine fi43.os ?_
   (refine Sg.h ?_;try repeat' ((with_reducible first|refine brA ?_|refine brE fun _=>?_|refine spl ⟨?_,?_⟩<;>intro _)<;>((try simp -implicitDefEqProofs(disch:=first|assumption|(try simp only[lens]);omega -splitDisjunctions) [f1]))))
   refine W_of fun Q hQ=>?_
   obtain ⟨M,hM⟩ : ∃ M,w.args.map (putW L) = M:=⟨_,rfl⟩
   have hMl : M.length = w.args.length:=by rw [← hM,List.length_map]
   have hMe : wrd (Wd.mk w.nm M) = [.str w.nm,.list (M.map wrd)]:=wrd_eq _
   rw [hM] at hQ
   have hsl:=szWs_len w.args
   rw [szW_eq] at hsz
   have main : ∀ n i,i + n = w.args.length → Q [(1,.imap (mapW L)),(4,.ptr 0 0 0),(7,.ptr 1 0 0),(24,.list (w.args.map wrd)),(25,.int .i64 (w.args.length : Int)),(26,.int .i64 (i : Int))] [.rows 2 [[.str ⟨#[]⟩,.nilsl]],.rows 2 [[.str w.nm,.sl 2 0 (M.take i).length]],.rows 2 ((M.take i).map wrd)]:=by
    intro n
    induction n with
    | zero=>
     intro i hi
     rw [List.take_of_length_le (by omega)]
     have hi' : ¬ (i : Int) < (w.args.length : Int):=by omega
     apply hQ
     clear hQ ih
     (refine Sg.h ?_;try repeat' ((with_reducible first|refine brA ?_|refine brE fun _=>?_|refine spl ⟨?_,?_⟩<;>intro _)<;>((try simp -implicitDefEqProofs(disch:=first|assumption|(try simp only[lens]);omega -splitDisjunctions) [hi',hMe]))))
    | succ n ihn=>
     intro i hi
     have hil : i < w.args.length:=by omega
     have hilM : i < M.length:=by omega
     have hMi : M[i] = putW L w.args[i]:=by subst hM;rw [List.getElem_map]
     have ihn:=ihn (i + 1) (by omega)
     have hm:=List.getElem_mem hil
     have hc:=ih w.args[i] hm (by have:=szWs_mem hm;omega)
     rw [take_snocD hilM,hMi] at ihn
     have hlt : (M.take i).length ≤ 30000:=by rw [List.length_take];omega
     have hi' : (i : Int) < (w.args.length : Int):=by omega
     clear hM hMi hm
     generalize M.take i = T at *
     generalize hx : w.args[i] = x at *
     generalize putW L x = y at *
     rw [List.map_append,List.map_singleton] at ihn
     clear ih
     apply hQ
     clear hQ
     (refine Sg.h ?_;try repeat' ((first|(with_reducible first|refine brA ?_|refine brE fun _=>?_|refine spl ⟨?_,?_⟩<;>intro _)|refine clo hc ?_)<;>((try simp -implicitDefEqProofs(disch:=first|assumption|(try simp only[lens]);omega -splitDisjunctions) [hi',hil,hx]))))
     all_goals first|exact ihn|(refine at2 ihn ?_ ?_<;>simp;done)|(exfalso;first|omega|(simp_all;done)|(simp_all;omega))
   all_goals first|exact main w.args.length 0 (Nat.zero_add _)|(refine at2 main w.args.length 0 (Nat.zero_add _) ?_ ?_<;>simp;done)|(exfalso;first|omega|(simp_all;done)|(simp_all;omega))
def x46_T1 : XC:=.seq (.reg [⟨some 18,.move (.tmp 3),none⟩,⟨some 2,.assign (.tmp 18),none⟩]) .ret
def x46_L0 : XC:=.seq (.reg [⟨some 10,.binOp .lss 3 (.tmp 9) (.tmp 8) 3,none⟩]) (.seq (.cond (.tmp 10) .skip (.exit 0)) (.seq (.block 1 (.seq (.reg [⟨some 11,.indexAddr 26 (.tmp 7) (.tmp 9),none⟩,⟨some 12,.load 31 (.tmp 11),none⟩,⟨some 5,.alloc 31,none⟩,⟨none,.store 31 (.tmp 5) (.tmp 12),none⟩]) (.reg [⟨some 13,.move (.tmp 3),none⟩,⟨some 14,.load 31 (.tmp 5),none⟩,⟨some 15,.call ⟨.value (.func 46),#[.tmp 14],#[31]⟩,none⟩,⟨some 16,.binOp .add 3 (.tmp 13) (.tmp 15) 3,none⟩,⟨some 3,.assign (.tmp 16),none⟩]))) (.reg [⟨some 17,.binOp .add 3 (.tmp 9) (.const (.int .i64 1)) 3,none⟩,⟨some 9,.move (.tmp 17),none⟩])))
def x46 : XC:=.seq (.reg [⟨some 1,.box 31 (.tmp 0),none⟩,⟨some 2,.assign (.const (.int .i64 0)),none⟩]) (.seq (.reg [⟨some 3,.assign (.const (.int .i64 1)),none⟩]) (.seq (.seq (.reg [⟨some 6,.fieldAddr 31 (.tmp 1) 1,none⟩,⟨some 7,.load 26 (.tmp 6),none⟩,⟨some 8,.call ⟨.builtin .len,#[.tmp 7],#[26]⟩,none⟩,⟨some 9,.move (.const (.int .i64 0)),none⟩]) (.bloop 0 x46_L0)) (x46_T1)))
@[simp] theorem x46_s {C e s K} : type_of% (@X_at C e s K _ _ x46_T1.eq_1) ∧ type_of% (@X_at C e s K _ _ x46_L0.eq_1) ∧ type_of% (@X_at C e s K _ _ x46.eq_1):=⟨X_at x46_T1.eq_1,X_at x46_L0.eq_1,X_at x46.eq_1⟩
def an46 : Ann:=⟨[],[(0,[],[3,7,8,9],[3])],[]⟩
@[simp] theorem an46_a : an46.loopOf 0 = ([],[3,7,8,9],[3]):=rfl
theorem fi46 : FI Try.prog 46 (cxA an46) x46 [.tmp 2] Try.f46:=fiA Try.func46 mixed
theorem CountWord_first (w : Wd) : szW w ≤ 1000000000 → CallOK Try.prog 46 [.agg (wrd w)] [] (.int .i64 (szW w : Int)) []:=by
 induction w using Wd.ind with
 | h w ih=>
  intro hsz
  have he:=wrd_eq w
  rw [szW_eq] at hsz ⊢
  obtain ⟨R,hR⟩ : ∃ R,szWs w.args + 1 = R:=⟨_,rfl⟩
  rw [hR] at hsz ⊢
  refine fi46.op ?_
  (refine Sg.h ?_;try repeat' ((with_reducible first|refine brA ?_|refine brE fun _=>?_|refine spl ⟨?_,?_⟩<;>intro _)<;>((try simp -implicitDefEqProofs(disch:=first|assumption|(try simp only[lens]);omega -splitDisjunctions)))))
  refine W_of fun Q hQ=>?_
  have main : ∀ n i s,i + n = w.args.length → s + szWs (w.args.drop i) = R → Q [(3,.int .i64 (s : Int)),(7,.list (w.args.map wrd)),(8,.int .i64 (w.args.length : Int)),(9,.int .i64 (i : Int))] []:=by
   intro n
   induction n with
   | zero=>
    intro i s hi hs
    rw [List.drop_of_length_le (by omega),szWs] at hs
    obtain rfl : s = R:=by omega
    obtain rfl : i = w.args.length:=by omega
    apply hQ
    clear hQ
    (refine Sg.h ?_;try repeat' ((with_reducible first|refine brA ?_|refine brE fun _=>?_|refine spl ⟨?_,?_⟩<;>intro _)<;>((try simp -implicitDefEqProofs(disch:=first|assumption|(try simp only[lens]);omega -splitDisjunctions)))))
   | succ n ihn=>
    intro i s hi hs
    have hil : i < w.args.length:=by omega
    have hm:=List.getElem_mem hil
    have h1:=szWs_mem hm
    rw [List.drop_eq_getElem_cons hil,szWs] at hs
    have hc:=ih w.args[i] hm (by omega)
    have ihn:=ihn (i + 1) (s + szW w.args[i]) (by omega) (by omega)
    have hi' : (i : Int) < (w.args.length : Int):=by omega
    generalize hx : w.args[i] = x at *
    generalize szW x = z at *
    apply hQ
    clear hQ
    (refine Sg.h ?_;try repeat' ((first|(with_reducible first|refine brA ?_|refine brE fun _=>?_|refine spl ⟨?_,?_⟩<;>intro _)|refine clo hc ?_)<;>((try simp -implicitDefEqProofs(disch:=first|assumption|(try simp only[lens]);omega -splitDisjunctions) [hi',hil,hx]))))
    all_goals first|exact ihn|(refine at2 ihn ?_ ?_<;>simp;done)|(exfalso;first|omega|(simp_all;done)|(simp_all;omega))
  refine at2 (main w.args.length 0 1 (Nat.zero_add _) (by rw [List.drop_zero];omega)) ?_ ?_
  ·rfl
  ·rfl
mutual
def szE : Ex → Nat
 | .mk _ _ ws l=>szWs ws + szEs l + 1
def szEs : List Ex → Nat
 | []=>0
 | w :: r=>szE w + szEs r
end
theorem szE_eq (e : Ex) : szE e = szWs e.words + szEs e.kids + 1:=by cases e with | mk k a w l=>rw [szE];rfl
theorem szEs_mem {w : Ex} : ∀ {l : List Ex},w ∈ l → szE w ≤ szEs l
 | [],h=>by cases h
 | a :: r,h=>by
  rw [szEs]
  rcases List.mem_cons.1 h with rfl | h
  ·omega
  ·have:=szEs_mem h;omega
theorem szEs_len : ∀ l : List Ex,l.length ≤ szEs l
 | []=>Nat.zero_le _
 | a :: r=>by
  have:=szEs_len r
  rw [szEs,List.length_cons,szE_eq]
  omega
def x28_T3 : XC:=.seq (.reg [⟨some 32,.move (.tmp 3),none⟩,⟨some 2,.assign (.tmp 32),none⟩]) .ret
def x28_L2 : XC:=.seq (.reg [⟨some 24,.binOp .lss 3 (.tmp 23) (.tmp 22) 3,none⟩]) (.seq (.cond (.tmp 24) .skip (.exit 2)) (.seq (.block 3 (.seq (.reg [⟨some 25,.indexAddr 27 (.tmp 21) (.tmp 23),none⟩,⟨some 26,.load 29 (.tmp 25),none⟩,⟨some 7,.alloc 29,none⟩,⟨none,.store 29 (.tmp 7) (.tmp 26),none⟩]) (.reg [⟨some 27,.move (.tmp 3),none⟩,⟨some 28,.load 29 (.tmp 7),none⟩,⟨some 29,.call ⟨.value (.func 28),#[.tmp 28],#[29]⟩,none⟩,⟨some 30,.binOp .add 3 (.tmp 27) (.tmp 29) 3,none⟩,⟨some 3,.assign (.tmp 30),none⟩]))) (.reg [⟨some 31,.binOp .add 3 (.tmp 23) (.const (.int .i64 1)) 3,none⟩,⟨some 23,.move (.tmp 31),none⟩])))
def x28_T1 : XC:=.seq (.seq (.reg [⟨some 20,.fieldAddr 29 (.tmp 1) 3,none⟩,⟨some 21,.load 27 (.tmp 20),none⟩,⟨some 22,.call ⟨.builtin .len,#[.tmp 21],#[27]⟩,none⟩,⟨some 23,.move (.const (.int .i64 0)),none⟩]) (.bloop 2 x28_L2)) (x28_T3)
def x28_L0 : XC:=.seq (.reg [⟨some 12,.binOp .lss 3 (.tmp 11) (.tmp 10) 3,none⟩]) (.seq (.cond (.tmp 12) .skip (.exit 0)) (.seq (.block 1 (.seq (.reg [⟨some 13,.indexAddr 26 (.tmp 9) (.tmp 11),none⟩,⟨some 14,.load 31 (.tmp 13),none⟩,⟨some 5,.alloc 31,none⟩,⟨none,.store 31 (.tmp 5) (.tmp 14),none⟩]) (.reg [⟨some 15,.move (.tmp 3),none⟩,⟨some 16,.load 31 (.tmp 5),none⟩,⟨some 17,.call ⟨.value (.func 46),#[.tmp 16],#[31]⟩,none⟩,⟨some 18,.binOp .add 3 (.tmp 15) (.tmp 17) 3,none⟩,⟨some 3,.assign (.tmp 18),none⟩]))) (.reg [⟨some 19,.binOp .add 3 (.tmp 11) (.const (.int .i64 1)) 3,none⟩,⟨some 11,.move (.tmp 19),none⟩])))
def x28 : XC:=.seq (.reg [⟨some 1,.box 29 (.tmp 0),none⟩,⟨some 2,.assign (.const (.int .i64 0)),none⟩]) (.seq (.reg [⟨some 3,.assign (.const (.int .i64 1)),none⟩]) (.seq (.seq (.reg [⟨some 8,.fieldAddr 29 (.tmp 1) 2,none⟩,⟨some 9,.load 26 (.tmp 8),none⟩,⟨some 10,.call ⟨.builtin .len,#[.tmp 9],#[26]⟩,none⟩,⟨some 11,.move (.const (.int .i64 0)),none⟩]) (.bloop 0 x28_L0)) (x28_T1)))
@[simp] theorem x28_s {C e s K} : type_of% (@X_at C e s K _ _ x28_T3.eq_1) ∧ type_of% (@X_at C e s K _ _ x28_L2.eq_1) ∧ type_of% (@X_at C e s K _ _ x28_T1.eq_1) ∧ type_of% (@X_at C e s K _ _ x28_L0.eq_1) ∧ type_of% (@X_at C e s K _ _ x28.eq_1):=⟨X_at x28_T3.eq_1,X_at x28_L2.eq_1,X_at x28_T1.eq_1,X_at x28_L0.eq_1,X_at x28.eq_1⟩
def an28 : Ann:=⟨[],[(2,[],[3,21,22,23],[3]),(0,[],[1,3,9,10,11],[1,3])],[]⟩
@[simp] theorem an28_a : an28.loopOf 2 = ([],[3,21,22,23],[3]) ∧ an28.loopOf 0 = ([],[1,3,9,10,11],[1,3]):=⟨rfl,rfl⟩
theorem fi28 : FI Try.prog 28 (cxA an28) x28 [.tmp 2] Try.f28:=fiA Try.func28 mixed
theorem Count_first (e : Ex) : szE e ≤ 1000000000 → CallOK Try.prog 28 [.agg (exr e)] [] (.int .i64 (szE e : Int)) []:=by
 induction e using Ex.ind with
 | h e ih=>
  intro hsz
  have he:=exr_eq e
  rw [szE_eq] at hsz ⊢
  obtain ⟨R,hR⟩ : ∃ R,szWs e.words + szEs e.kids + 1 = R:=⟨_,rfl⟩
  rw [hR] at hsz ⊢
  refine fi28.op ?_
  (refine Sg.h ?_;try repeat' ((with_reducible first|refine brA ?_|refine brE fun _=>?_|refine spl ⟨?_,?_⟩<;>intro _)<;>((try simp -implicitDefEqProofs(disch:=first|assumption|(try simp only[lens]);omega -splitDisjunctions)))))
  refine W_of fun Q hQ=>?_
  have main : ∀ n i s,i + n = e.words.length → s + szWs (e.words.drop i) + szEs e.kids = R → Q [(1,.ptr 0 0 0),(3,.int .i64 (s : Int)),(9,.list (e.words.map wrd)),(10,.int .i64 (e.words.length : Int)),(11,.int .i64 (i : Int))] [.rows 4 [exr e]]:=by
   intro n
   induction n with
   | zero=>
    intro i s hi hs
    rw [List.drop_of_length_le (by omega),szWs] at hs
    obtain rfl : i = e.words.length:=by omega
    apply hQ
    clear hQ
    (refine Sg.h ?_;try repeat' ((with_reducible first|refine brA ?_|refine brE fun _=>?_|refine spl ⟨?_,?_⟩<;>intro _)<;>((try simp -implicitDefEqProofs(disch:=first|assumption|(try simp only[lens]);omega -splitDisjunctions)))))
    refine W_of fun Q hQ=>?_
    have main : ∀ n i s,i + n = e.kids.length → s + szEs (e.kids.drop i) = R → Q [(3,.int .i64 (s : Int)),(21,.list (e.kids.map exr)),(22,.int .i64 (e.kids.length : Int)),(23,.int .i64 (i : Int))] []:=by
     intro n
     induction n with
     | zero=>
      intro i s hi hs
      rw [List.drop_of_length_le (by omega),szEs] at hs
      obtain rfl : s = R:=by omega
      obtain rfl : i = e.kids.length:=by omega
      apply hQ
      clear hQ
      (refine Sg.h ?_;try repeat' ((with_reducible first|refine brA ?_|refine brE fun _=>?_|refine spl ⟨?_,?_⟩<;>intro _)<;>((try simp -implicitDefEqProofs(disch:=first|assumption|(try simp only[lens]);omega -splitDisjunctions)))))
     | succ n ihn=>
      intro i s hi hs
      have hil : i < e.kids.length:=by omega
      have hm:=List.getElem_mem hil
      have h1:=szEs_mem hm
      rw [List.drop_eq_getElem_cons hil,szEs] at hs
      have hc:=ih e.kids[i] hm (by omega)
      have ihn:=ihn (i + 1) (s + szE e.kids[i]) (by omega) (by omega)
      have hi' : (i : Int) < (e.kids.length : Int):=by omega
      generalize hx : e.kids[i] = x at *
      generalize szE x = z at *
      apply hQ
      clear hQ
      (refine Sg.h ?_;try repeat' ((first|(with_reducible first|refine brA ?_|refine brE fun _=>?_|refine spl ⟨?_,?_⟩<;>intro _)|refine clo hc ?_)<;>((try simp -implicitDefEqProofs(disch:=first|assumption|(try simp only[lens]);omega -splitDisjunctions) [hi',hil,hx]))))
      all_goals first|exact ihn|(refine at2 ihn ?_ ?_<;>simp;done)|(exfalso;first|omega|(simp_all;done)|(simp_all;omega))
    all_goals first|exact main e.kids.length 0 s (Nat.zero_add _) (by rw [List.drop_zero];omega)|(refine at2 main e.kids.length 0 s (Nat.zero_add _) (by rw [List.drop_zero];omega) ?_ ?_<;>simp;done)|(exfalso;first|omega|(simp_all;done)|(simp_all;omega))
   | succ n ihn=>
    intro i s hi hs
    have hil : i < e.words.length:=by omega
    have hm:=List.getElem_mem hil
    have h1:=szWs_mem hm
    rw [List.drop_eq_getElem_cons hil,szWs] at hs
    have hc:=CountWord_first e.words[i] (by omega)
    have ihn:=ihn (i + 1) (s + szW e.words[i]) (by omega) (by omega)
    have hi' : (i : Int) < (e.words.length : Int):=by omega
    generalize hx : e.words[i] = x at *
    generalize szW x = z at *
    apply hQ
    clear hQ
    (refine Sg.h ?_;try repeat' ((first|(with_reducible first|refine brA ?_|refine brE fun _=>?_|refine spl ⟨?_,?_⟩<;>intro _)|refine clo hc ?_)<;>((try simp -implicitDefEqProofs(disch:=first|assumption|(try simp only[lens]);omega -splitDisjunctions) [hi',hil,hx]))))
    all_goals first|exact ihn|(refine at2 ihn ?_ ?_<;>simp;done)|(exfalso;first|omega|(simp_all;done)|(simp_all;omega))
  refine at2 (main e.words.length 0 1 (Nat.zero_add _) (by rw [List.drop_zero];omega)) ?_ ?_
  ·rfl
  ·rfl
end Go.Proofs.Ytbimioonhfhflaa
namespace Go.Proofs.Ytbimioonhfhflaa
open Go Go.Pv
def x72_L0 : XC:=.seq (.reg [⟨some 9,.binOp .lss 3 (.tmp 8) (.tmp 7) 3,none⟩]) (.seq (.cond (.tmp 9) .skip (.exit 0)) (.seq (.block 1 (.seq (.reg [⟨some 10,.move (.tmp 8),none⟩,⟨some 5,.assign (.tmp 10),none⟩]) (.seq (.reg [⟨some 11,.move (.tmp 1),none⟩,⟨some 12,.move (.tmp 0),none⟩,⟨some 13,.move (.tmp 5),none⟩,⟨some 14,.indexAddr 32 (.tmp 12) (.tmp 13),none⟩,⟨some 15,.load 9 (.tmp 14),none⟩,⟨some 16,.binOp .eql 9 (.tmp 11) (.tmp 15) 9,none⟩]) (.cond (.tmp 16) (.seq (.reg [⟨some 17,.move (.tmp 5),none⟩,⟨some 4,.assign (.tmp 17),none⟩]) .ret) .skip)))) (.reg [⟨some 18,.binOp .add 3 (.tmp 8) (.const (.int .i64 1)) 3,none⟩,⟨some 8,.move (.tmp 18),none⟩])))
def x72 : XC:=.seq (.reg [⟨some 4,.assign (.const (.int .i64 0)),none⟩]) (.seq (.seq (.reg [⟨some 6,.move (.tmp 0),none⟩,⟨some 7,.call ⟨.builtin .len,#[.tmp 6],#[32]⟩,none⟩,⟨some 8,.move (.const (.int .i64 0)),none⟩]) (.bloop 0 x72_L0)) (.seq (.reg [⟨some 4,.assign (.const (.int .i64 (-1))),none⟩]) .ret))
@[simp] theorem x72_s {C e s K} : type_of% (@X_at C e s K _ _ x72_L0.eq_1) ∧ type_of% (@X_at C e s K _ _ x72.eq_1):=⟨X_at x72_L0.eq_1,X_at x72.eq_1⟩
def an72 : Ann:=⟨[],[(0,[],[0,1,7,8],[4])],[]⟩
@[simp] theorem an72_a : an72.loopOf 0 = ([],[0,1,7,8],[4]):=rfl
theorem fi72 : FI Try.prog 72 (cxA an72) x72 [.tmp 4] Try.f72:=fiA Try.func72 mixed
theorem Index_strs (l : List ByteArray) (hl : l.length ≤ 1000000) (x : ByteArray) : ∃ q : Int,CallOK Try.prog 72 [.list (l.map strRow),.str x] [] (.int .i64 q) [] ∧ (0 ≤ q ↔ hasB l x = true):=by
 obtain ⟨q,hq⟩ : ∃ q : Int,(match l.findIdx? (fun y=>decide (x = y)) with | some i=>(i : Int) | none=>-1) = q:=⟨_,rfl⟩
 refine ⟨q,?_,?_⟩
 rotate_left
 ·unfold hasB
  cases hf : l.findIdx? (fun y=>decide (x = y)) with
  | some i=>
   rw [hf] at hq
   rw [List.findIdx?_eq_some_iff_getElem] at hf
   obtain ⟨h,h1,_⟩:=hf
   have : (l.any fun y=>decide (x = y)) = true:=List.any_eq_true.2 ⟨l[i],List.getElem_mem h,h1⟩
   rw [this]
   change (i : Int) = q at hq
   constructor
   ·intro _;rfl
   ·intro _;omega
  | none=>
   rw [hf] at hq
   rw [List.findIdx?_eq_none_iff] at hf
   have : (l.any fun y=>decide (x = y)) = false:=by rw [List.any_eq_false];intro y hy;simp [hf y hy]
   rw [this]
   change (-1 : Int) = q at hq
   constructor
   ·intro h;omega
   ·intro h;cases h
 ·refine fi72.op ?_
  (refine Sg.h ?_;try repeat' ((with_reducible first|refine brA ?_|refine brE fun _=>?_|refine spl ⟨?_,?_⟩<;>intro _)<;>((try simp -implicitDefEqProofs(disch:=first|assumption|(try simp only[lens]);omega -splitDisjunctions)))))
  refine W_of fun Q hQ=>?_
  have main : ∀ n i,i + n = l.length → (match (l.drop i).findIdx? (fun y=>decide (x = y)) with | some j=>((i + j : Nat) : Int) | none=>-1) = q → Q [(0,.list (l.map strRow)),(1,.str x),(7,.int .i64 (l.length : Int)),(8,.int .i64 (i : Int))] []:=by
   intro n
   induction n with
   | zero=>
    intro i hi hq
    rw [List.drop_of_length_le (by omega)] at hq
    change -1 = q at hq
    subst hq
    obtain rfl : i = l.length:=by omega
    apply hQ
    clear hQ
    (refine Sg.h ?_;try repeat' ((with_reducible first|refine brA ?_|refine brE fun _=>?_|refine spl ⟨?_,?_⟩<;>intro _)<;>((try simp -implicitDefEqProofs(disch:=first|assumption|(try simp only[lens]);omega -splitDisjunctions)))))
   | succ n ih=>
    intro i hi hq
    have hil : i < l.length:=by omega
    have ih:=ih (i + 1) (by omega)
    rw [List.drop_eq_getElem_cons hil,List.findIdx?_cons] at hq
    have hi' : (i : Int) < (l.length : Int):=by omega
    generalize hy : l[i] = y at *
    by_cases hp : x = y
    ·rw [decide_eq_true hp] at hq
     rw [if_pos rfl] at hq
     change ((i + 0 : Nat) : Int) = q at hq
     rw [Nat.add_zero] at hq
     subst hq
     apply hQ
     clear hQ ih
     (refine Sg.h ?_;try repeat' ((with_reducible first|refine brA ?_|refine brE fun _=>?_|refine spl ⟨?_,?_⟩<;>intro _)<;>((try simp -implicitDefEqProofs(disch:=first|assumption|(try simp only[lens]);omega -splitDisjunctions) [hi',hil,hy,hp]))))
    ·rw [decide_eq_false hp,if_neg (by simp)] at hq
     have ih:=ih (by
      rw [← hq]
      generalize (l.drop (i + 1)).findIdx? (fun y=>decide (x = y)) = o
      cases o with
      | none=>rfl
      | some j=>
       change ((i + 1 + j : Nat) : Int) = ((i + (j + 1) : Nat) : Int)
       omega)
     apply hQ
     clear hQ hq
     (refine Sg.h ?_;try repeat' ((with_reducible first|refine brA ?_|refine brE fun _=>?_|refine spl ⟨?_,?_⟩<;>intro _)<;>((try simp -implicitDefEqProofs(disch:=first|assumption|(try simp only[lens]);omega -splitDisjunctions) [hi',hil,hy,hp]))))
     all_goals first|exact ih|(refine at2 ih ?_ ?_<;>simp;done)|(exfalso;first|omega|(simp_all;done)|(simp_all;omega))
  all_goals first|exact main l.length 0 (Nat.zero_add _) (by rw [List.drop_zero];rw [← hq];cases l.findIdx? (fun y=>decide (x = y)) <;> simp)|(refine at2 main l.length 0 (Nat.zero_add _) (by rw [List.drop_zero];rw [← hq];cases l.findIdx? (fun y=>decide (x = y)) <;> simp) ?_ ?_<;>simp;done)|(exfalso;first|omega|(simp_all;done)|(simp_all;omega))
def x53 : XC:=.seq (.reg [⟨some 4,.assign (.const (.bool false)),none⟩]) (.seq (.reg [⟨some 5,.move (.tmp 0),none⟩,⟨some 6,.move (.tmp 1),none⟩,⟨some 7,.call ⟨.value (.func 72),#[.tmp 5,.tmp 6],#[32,9]⟩,none⟩,⟨some 8,.binOp .geq 3 (.tmp 7) (.const (.int .i64 0)) 3,none⟩,⟨some 4,.assign (.tmp 8),none⟩]) .ret)
@[simp] theorem x53_s {C e s K} : type_of% (@X_at C e s K _ _ x53.eq_1):=X_at x53.eq_1
def an53 : Ann:=⟨[],[],[]⟩
theorem fi53 : FI Try.prog 53 (cxA an53) x53 [.tmp 4] Try.f53:=fiA Try.func53 mixed
theorem Contains_has (l : List ByteArray) (hl : l.length ≤ 1000000) (x : ByteArray) : CallOK Try.prog 53 [.list (l.map strRow),.str x] [] (.bool (hasB l x)) []:=by
 obtain ⟨q,hc,hq⟩:=Index_strs l hl x
 refine fi53.op ?_
 cases hb : hasB l x with
 | true=>
  have h0 : 0 ≤ q:=hq.2 hb
  (refine Sg.h ?_;try repeat' ((first|(with_reducible first|refine brA ?_|refine brE fun _=>?_|refine spl ⟨?_,?_⟩<;>intro _)|refine clo hc ?_)<;>((try simp -implicitDefEqProofs(disch:=first|assumption|(try simp only[lens]);omega -splitDisjunctions) [h0]))))
 | false=>
  have h0 : ¬ 0 ≤ q:=fun g=>by rw [hq.1 g] at hb;cases hb
  (refine Sg.h ?_;try repeat' ((first|(with_reducible first|refine brA ?_|refine brE fun _=>?_|refine spl ⟨?_,?_⟩<;>intro _)|refine clo hc ?_)<;>((try simp -implicitDefEqProofs(disch:=first|assumption|(try simp only[lens]);omega -splitDisjunctions) [h0]))))
theorem enc_letter {r : Nat} (h : r < 26) : Utf8.encode (97 + (r : Int)) = ⟨#[UInt8.ofNat (97 + r)]⟩:=by
 unfold Utf8.encode
 have hv : Utf8.valid (97 + (r : Int)) = true:=by
  unfold Utf8.valid
  rw [decide_eq_true (show (0 : Int) ≤ 97 + (r : Int) by omega),decide_eq_true (show 97 + (r : Int) < 55296 by omega)]
  rfl
 have hn : (97 + (r : Int)).toNat = 97 + r:=by omega
 dsimp only
 rw [hv,if_pos rfl,hn,if_pos (by omega)]
theorem app_letter (x : UInt8) (suf : List UInt8) : (⟨#[x]⟩ : ByteArray) ++ ⟨suf.toArray⟩ = ⟨(x :: suf).toArray⟩:=by
 apply ByteArray.ext
 simp
theorem lettersL_le : ∀ n : Nat,(lettersL n).length ≤ n + 1:=by
 intro n
 induction n using Nat.strongRecOn with
 | _ n ih=>
  rw [lettersL_eq]
  split
  ·simp
  ·have := ih (n / 26 - 1) (by omega)
   rw [List.length_append,List.length_singleton]
   omega
def x45_T2 : XC:=.seq (.reg [⟨some 28,.move (.tmp 1),none⟩,⟨some 29,.move (.tmp 6),none⟩,⟨some 30,.call ⟨.value (.func 53),#[.tmp 28,.tmp 29],#[32,9]⟩,none⟩,⟨some 31,.unOp .not 4 (.tmp 30),none⟩]) (.cond (.tmp 31) (.seq (.reg [⟨some 32,.move (.tmp 6),none⟩,⟨some 4,.assign (.tmp 32),none⟩]) .ret) .skip)
def x45_L2 : XC:=.seq (.block 3 (.seq (.reg [⟨some 19,.move (.tmp 7),none⟩,⟨some 20,.binOp .rem 3 (.tmp 19) (.const (.int .i64 26)) 3,none⟩,⟨some 21,.binOp .add 3 (.const (.int .i64 97)) (.tmp 20) 3,none⟩,⟨some 22,.convert 3 21 (.tmp 21),none⟩,⟨some 23,.convert 21 9 (.tmp 22),none⟩,⟨some 24,.move (.tmp 6),none⟩,⟨some 25,.binOp .add 9 (.tmp 23) (.tmp 24) 9,none⟩,⟨some 6,.assign (.tmp 25),none⟩]) (.seq (.reg [⟨some 26,.move (.tmp 7),none⟩,⟨some 27,.binOp .lss 3 (.tmp 26) (.const (.int .i64 26)) 3,none⟩]) (.cond (.tmp 27) (.exit 2) .skip)))) (.reg [⟨some 16,.move (.tmp 7),none⟩,⟨some 17,.binOp .quo 3 (.tmp 16) (.const (.int .i64 26)) 3,none⟩,⟨some 18,.binOp .sub 3 (.tmp 17) (.const (.int .i64 1)) 3,none⟩,⟨some 7,.assign (.tmp 18),none⟩])
def x45_L0 : XC:=.seq (.block 1 (.seq (.reg [⟨some 6,.assign (.const (.string ⟨#[]⟩)),none⟩]) (.seq (.seq (.reg [⟨some 15,.move (.tmp 5),none⟩,⟨some 7,.assign (.tmp 15),none⟩]) (.bloop 2 x45_L2)) (x45_T2)))) (.reg [⟨some 13,.move (.tmp 5),none⟩,⟨some 14,.binOp .add 3 (.tmp 13) (.const (.int .i64 1)) 3,none⟩,⟨some 5,.assign (.tmp 14),none⟩])
def x45 : XC:=.seq (.reg [⟨some 4,.assign (.const (.string ⟨#[]⟩)),none⟩]) (.seq (.seq (.reg [⟨some 8,.move (.tmp 1),none⟩,⟨some 9,.move (.tmp 0),none⟩,⟨some 10,.call ⟨.value (.func 53),#[.tmp 8,.tmp 9],#[32,9]⟩,none⟩,⟨some 11,.unOp .not 4 (.tmp 10),none⟩]) (.cond (.tmp 11) (.seq (.reg [⟨some 12,.move (.tmp 0),none⟩,⟨some 4,.assign (.tmp 12),none⟩]) .ret) .skip)) (.seq (.reg [⟨some 5,.assign (.const (.int .i64 0)),none⟩]) (.bloop 0 x45_L0)))
@[simp] theorem x45_s {C e s K} : type_of% (@X_at C e s K _ _ x45_T2.eq_1) ∧ type_of% (@X_at C e s K _ _ x45_L2.eq_1) ∧ type_of% (@X_at C e s K _ _ x45_L0.eq_1) ∧ type_of% (@X_at C e s K _ _ x45.eq_1):=⟨X_at x45_T2.eq_1,X_at x45_L2.eq_1,X_at x45_L0.eq_1,X_at x45.eq_1⟩
def an45 : Ann:=⟨[],[(2,[],[1,5,6,7],[1,5,6]),(0,[],[1,5],[4])],[]⟩
@[simp] theorem an45_a : an45.loopOf 2 = ([],[1,5,6,7],[1,5,6]) ∧ an45.loopOf 0 = ([],[1,5],[4]):=⟨rfl,rfl⟩
theorem fi45 : FI Try.prog 45 (cxA an45) x45 [.tmp 4] Try.f45:=fiA Try.func45 mixed
theorem Fresh_first (a : ByteArray) (t : List ByteArray) (ht : t.length ≤ 400000) : CallOK Try.prog 45 [.str a,.list (t.map strRow)] [] (.str (freshN a t)) []:=by
 have hc:=Contains_has t (by omega) a
 unfold freshN
 refine fi45.op ?_
 cases hb : hasB t a with
 | false=>
  rw [hb] at hc
  rw [if_neg (by simp)]
  (refine Sg.h ?_;try repeat' ((first|(with_reducible first|refine brA ?_|refine brE fun _=>?_|refine spl ⟨?_,?_⟩<;>intro _)|refine clo hc ?_)<;>((try simp -implicitDefEqProofs(disch:=first|assumption|(try simp only[lens]);omega -splitDisjunctions)))))
 | true=>
  rw [hb] at hc
  rw [if_pos rfl]
  obtain ⟨R,hR⟩ : ∃ R,findF t t.length 0 = R:=⟨_,rfl⟩
  rw [hR]
  (refine Sg.h ?_;try repeat' ((first|(with_reducible first|refine brA ?_|refine brE fun _=>?_|refine spl ⟨?_,?_⟩<;>intro _)|refine clo hc ?_)<;>((try simp -implicitDefEqProofs(disch:=first|assumption|(try simp only[lens]);omega -splitDisjunctions)))))
  refine W_of fun Q hQ=>?_
  have step : ∀ k,k ≤ 400000 → (hasB t (lettersB k) = true → Q [(1,.list (t.map strRow)),(5,.int .i64 ((k + 1 : Nat) : Int))] []) → (hasB t (lettersB k) = false → k = R) → Q [(1,.list (t.map strRow)),(5,.int .i64 (k : Int))] [] := by
    intro k hk ih hR
    have hck:=Contains_has t (by omega) (lettersB k)
    apply hQ
    clear hQ
    (refine Sg.h ?_;try repeat' ((with_reducible first|refine brA ?_|refine brE fun _=>?_|refine spl ⟨?_,?_⟩<;>intro _)<;>((try simp -implicitDefEqProofs(disch:=first|assumption|(try simp only[lens]);omega -splitDisjunctions)))))
    refine W_of fun Q2 hQ2=>?_
    have inner : ∀ (n : Nat) (suf : List UInt8),n ≤ 400000 → lettersL n ++ suf = lettersL k → Q2 [(1,.list (t.map strRow)),(5,.int .i64 (k : Int)),(6,.str ⟨suf.toArray⟩),(7,.int .i64 (n : Int))] []:=by
     intro n
     induction n using Nat.strongRecOn with
     | _ n ihn=>
      intro suf hn hs
      have t1 : ((n : Nat) : Int).tmod 26 = ((n % 26 : Nat) : Int):=by rw [Int.tmod_eq_emod_of_nonneg (by omega)];omega
      have t2 : ((n : Nat) : Int).tdiv 26 = ((n / 26 : Nat) : Int):=by rw [Int.tdiv_eq_ediv_of_nonneg (by omega)];omega
      have hr:=Nat.mod_lt n (show 0 < 26 by decide)
      have henc:=enc_letter hr
      have happ:=app_letter (UInt8.ofNat (97 + n % 26)) suf
      have hsl : suf.length ≤ 400001:=by
       have h1:=lettersL_le k
       rw [← hs,List.length_append] at h1
       omega
      rw [lettersL_eq] at hs
      have hsl1 : 1 + suf.length ≤ 9223372036854775807:=by omega
      generalize UInt8.ofNat (97 + n % 26) = x at *
      apply hQ2
      clear hQ2
      by_cases h26 : n < 26
      ·have h26' : (n : Int) < 26 := by omega
       rw [if_pos h26] at hs
       have hs : ByteArray.mk (x :: suf).toArray = lettersB k:=by unfold lettersB;rw [← hs];rfl
       rw [hs] at happ
       clear ihn
       generalize n % 26 = r at *
       cases hbk : hasB t (lettersB k) with
       | true=>
        rw [hbk] at hck
        have ih:=ih hbk
        (refine Sg.h ?_;try repeat' ((first|(with_reducible first|refine brA ?_|refine brE fun _=>?_|refine spl ⟨?_,?_⟩<;>intro _)|refine clo hck ?_)<;>((try simp -implicitDefEqProofs(disch:=first|assumption|(try simp only[lens]);omega -splitDisjunctions) [t1,t2,h26',henc,happ,hsl1]))))
        all_goals first|exact ih|(refine at2 ih ?_ ?_<;>simp;done)|(exfalso;first|omega|(simp_all;done)|(simp_all;omega))
       | false=>
        rw [hbk] at hck
        obtain rfl:=hR hbk
        (refine Sg.h ?_;try repeat' ((first|(with_reducible first|refine brA ?_|refine brE fun _=>?_|refine spl ⟨?_,?_⟩<;>intro _)|refine clo hck ?_)<;>((try simp -implicitDefEqProofs(disch:=first|assumption|(try simp only[lens]);omega -splitDisjunctions) [t1,t2,h26',henc,happ,hsl1]))))
      ·have h26' : ¬ (n : Int) < 26 := by omega
       rw [if_neg h26,List.append_assoc] at hs
       have ihn:=ihn (n / 26 - 1) (by omega) (x :: suf) (by omega) hs
       have hq1 : ((n / 26 - 1 : Nat) : Int) = ((n / 26 : Nat) : Int) - 1:=by omega
       rw [hq1] at ihn
       have hq0 : 1 ≤ n / 26:=by omega
       have hq2 : n / 26 ≤ 400000:=by omega
       clear hs ih hck
       generalize ByteArray.mk (x :: suf).toArray = sx at *
       generalize n / 26 = q at *
       generalize n % 26 = r at *
       (refine Sg.h ?_;try repeat' ((with_reducible first|refine brA ?_|refine brE fun _=>?_|refine spl ⟨?_,?_⟩<;>intro _)<;>((try simp -implicitDefEqProofs(disch:=first|assumption|(try simp only[lens]);omega -splitDisjunctions) [t1,t2,h26',henc,happ,hsl1]))))
       all_goals first|exact ihn|(refine at2 ihn ?_ ?_<;>simp;done)|(exfalso;first|omega|(simp_all;done)|(simp_all;omega))
    all_goals first|exact inner k [] (by omega) (List.append_nil _)|(refine at2 inner k [] (by omega) (List.append_nil _) ?_ ?_<;>simp;done)|(exfalso;first|omega|(simp_all;done)|(simp_all;omega))
  have main : ∀ f k,k + f = t.length → (∀ j,j < k → hasB t (lettersB j) = true) → findF t f k = R → Q [(1,.list (t.map strRow)),(5,.int .i64 (k : Int))] []:=by
   intro f
   induction f with
   | zero=>
    intro k hk hj hR
    have:=(findF_spec t 0 k hj hk).1
    rw [findF] at this hR
    exact step k (by omega) (fun g=>by rw [this] at g;cases g) fun _=>hR
   | succ f ih=>
    intro k hk hj hR
    rw [findF] at hR
    refine step k (by omega) (fun g=>?_) fun g=>?_
    ·rw [if_pos g] at hR
     exact ih (k + 1) (by omega) (fun j hj'=>by
      by_cases hjk : j = k
      ·rw [hjk];exact g
      ·exact hj j (by omega)) hR
    ·rw [g,if_neg (by simp)] at hR
     exact hR
  all_goals first|exact main t.length 0 (Nat.zero_add _) (fun j hj=>absurd hj (by omega)) hR|(refine at2 main t.length 0 (Nat.zero_add _) (fun j hj=>absurd hj (by omega)) hR ?_ ?_<;>simp;done)|(exfalso;first|omega|(simp_all;done)|(simp_all;omega))
end Go.Proofs.Ytbimioonhfhflaa
namespace Go.Pv
open Go
theorem RetView.moved {m : Nat} {v v' : PV} {s1 s2 : Store} (ρ : List Nat) (hm : ∀ i,i < m → ρ[i]? = some i) (hlen : s2.length = ρ.length)
  (hinj : ∀ i j k : Nat,ρ[i]? = some k → ρ[j]? = some k → s2[i]? ≠ some PObj.dead → s2[j]? ≠ some PObj.dead → i = j)
  (hobj : ∀ (i : Nat) (o' : PObj),s2[i]? = some o' → ∃ j o,ρ[i]? = some j ∧ s1[j]? = some o ∧ RenObj ρ o' o) (hv : Ren ρ v' v) : RetView m v s1 v' s2:=by
 intro C pub' σ' w' cv hC hs hr
 have halive : ∀ i li,Alive s2 (σ'.ren ρ) i li → ∃ j,ρ[i]? = some j ∧ Alive s1 σ' j li:=by
  rintro i li ⟨o',h1,h2,h3,h4⟩
  obtain ⟨j,o,h5,h6,h7⟩:=hobj i o' h1
  refine ⟨j,h5,o,h6,?_,by simpa [Sig.ren,h5] using h3,h4⟩
  rintro rfl;cases h7;exact h2 rfl
 refine ⟨pub',σ'.ren ρ,?_,hv.rel hr⟩
 exact {
  pubIn:=hs.pubIn
  obj:=fun i o' hi=>by
   obtain ⟨j,o,h1,h2,h3⟩:=hobj i o' hi
   exact h3.ok h1 (hs.obj j o h2)
  inj:=fun i j li lj hi hj eb=>by
   obtain ⟨i',h1,h2⟩:=halive i li hi
   obtain ⟨j',h3,h4⟩:=halive j lj hj
   have:=hs.inj i' j' li lj h2 h4 eb
   subst this
   obtain ⟨oi,gi1,gi2,_⟩:=hi
   obtain ⟨oj,gj1,gj2,_⟩:=hj
   exact hinj i j i' h1 h3 (fun e=>gi2 (Option.some.inj (gi1.symm.trans e))) (fun e=>gj2 (Option.some.inj (gj1.symm.trans e)))
  sig:=fun i hi=>by simp [Sig.ren,List.getElem?_eq_none (show ρ.length ≤ i by omega)]
  os:=hs.os,tape:=hs.tape,output:=hs.output,size:=hs.size
  frame:=hs.frame
  own:=fun i li hi=>by obtain ⟨j,_,h2⟩:=halive i li hi;exact hs.own j li h2
  ple:=hs.ple
  sle:=fun i l hl=>by
   have him : i < m:=by
    rcases Nat.lt_or_ge i m with h | h
    ·exact h
    ·rw [hC i h] at hl;cases hl
   simp [Sig.ren,hm i him,hs.sle i l hl] }
theorem CallOK.moved {P : Program} {f : FuncId} {args : List PV} {v v' : PV} {s s1 s2 : Store} (h : CallOK P f args s v s1) (ρ : List Nat) (hm : ∀ i,i < s.length → ρ[i]? = some i) (hlen : s2.length = ρ.length)
  (hinj : ∀ i j k : Nat,ρ[i]? = some k → ρ[j]? = some k → s2[i]? ≠ some PObj.dead → s2[j]? ≠ some PObj.dead → i = j)
  (hobj : ∀ (i : Nat) (o' : PObj),s2[i]? = some o' → ∃ j o,ρ[i]? = some j ∧ s1[j]? = some o ∧ RenObj ρ o' o) (hv : Ren ρ v' v) : CallOK P f args s v' s2:=by
 intro pub σ w cargs hb ha
 refine (h pub σ w cargs hb ha).mono ?_
 rintro e w' ⟨cv,pub',σ',rfl,hs,hr⟩
 obtain ⟨p,t,h1,h2⟩:=RetView.moved ρ hm hlen hinj hobj hv ⟨w,pub,σ,dom s σ⟩ pub' σ' w' cv (fun i hi=>hb.sig i hi) hs hr
 exact ⟨cv,p,t,rfl,h1,h2⟩
theorem RenObj.flat {ρ : List Nat} {z : Nat} {rs : List (List PV)} (h : ∀ row ∈ rs,∀ x ∈ row,flatV x = true) : RenObj ρ (.rows z rs) (.rows z rs):=
 .same fun row hr x hx=>by
  have:=h row hr x hx
  cases x <;> first | (cases this;done) | constructor
theorem RenObj.less {α : Type} {g : α → List PV} [FlatRow g] {ρ : List Nat} {z : Nat} (l : List α) (J : List (List PV)) : RenObj ρ (.rows z (l.map g)) (.rows z (l.map g ++ J)):=by
 refine .rows (by simp) fun r row row' h1 h2=>?_
 have hr:=lt_of_getElem? h1
 rw [List.getElem?_append_left hr,h1] at h2
 cases h2
 refine ⟨rfl,fun k x y h3 h4=>?_⟩
 rw [h3] at h4
 cases h4
 obtain ⟨a,_,rfl⟩:=List.mem_map.1 (List.mem_of_getElem? h1)
 have:=List.all_eq_true.1 (FlatRow.flat (g:=g) a) x (List.mem_of_getElem? h3)
 cases x <;> first | (cases this;done) | constructor
end Go.Pv
