import Derived.Test.YtbimioonhfhflaaDPvMov
import Derived.Test.YtbimioonhfhflaaDFbF
import Derived.Test.YtbimioonhfhflaaDPvSort
import Derived.Sort.Walk0
import Derived.Test.YtbimioonhfhflaaDPvQg
set_option linter.unusedVariables false
set_option linter.unusedSimpArgs false
set_option maxRecDepth 100000
set_option maxHeartbeats 4000000
namespace Go.Proofs.Ytbimioonhfhflaa
open Go Go.Pv
def SzL (L : Mw) : Prop:=∀ p ∈ L,szW p.2 ≤ 300
theorem flatD_len {α β : Type} {g : α → List β} {b : Nat} : ∀ l : List α,(∀ a ∈ l,(g a).length ≤ b) → (l.flatMap g).length ≤ l.length * b
 | [],_=>by simp
 | a :: r,h=>by
  have:=flatD_len r fun x hx=>h x (by simp [hx])
  have:=h a (by simp)
  rw [List.flatMap_cons,List.length_append,List.length_cons,Nat.succ_mul]
  omega
theorem takenX_sz {L : Mw} (hL : SzL L) (y : ByteArray) : (takenX L y).length ≤ 300:=by
 unfold takenX
 cases hl : lookW y L with
 | some w=>exact Nat.le_trans (varsW_sz w) (hL _ (lookD_mem hl))
 | none=>simp
theorem now_sz {L : Mw} (hL : SzL L) : ∀ l : List ByteArray,SzL (nowL L l)
 | []=>fun p hp=>by cases hp
 | n :: r=>by
  intro p hp
  rw [nowL] at hp
  cases hl : lookW n L with
  | some w=>
   rw [hl] at hp
   rcases List.mem_cons.1 hp with rfl | hp
   ·exact hL _ (lookD_mem hl)
   ·exact now_sz hL r p hp
  | none=>rw [hl] at hp;exact now_sz hL r p hp
theorem nowL_snoc {L : Mw} {n : ByteArray} : ∀ l : List ByteArray,nowL L (l ++ [n]) = nowL L l ++ match lookW n L with
  | some w=>[(n,w)]
  | none=>[]
 | []=>by rw [List.nil_append,nowL,nowL];cases lookW n L <;> rfl
 | m :: r=>by
  rw [List.cons_append,nowL,nowL,nowL_snoc r]
  cases lookW m L <;> rfl
theorem mapW_snoc (L : Mw) (s : ByteArray) (w : Wd) : mapW L ++ [(.str s,.agg (wrd w))] = mapW (L ++ [(s,w)]):=by simp [mapW]
theorem lookW_free {L : Mw} {y : ByteArray} : ∀ {l : List ByteArray},y ∉ l → lookW y (nowL L l) = none
 | [],_=>rfl
 | m :: q,hm=>by
  rw [List.mem_cons,not_or] at hm
  rw [nowL]
  cases lookW m L with
  | some v=>dsimp only;rw [lookW,if_neg hm.1,lookW_free hm.2]
  | none=>exact lookW_free hm.2
def x27_T6 : XC:=.seq (.reg [⟨some 106,.load 29 (.tmp 5),none⟩,⟨none,.store 29 (.tmp 4) (.tmp 106),none⟩]) .ret
def x27_L4 : XC:=.seq (.reg [⟨some 94,.binOp .lss 3 (.tmp 93) (.tmp 92) 3,none⟩]) (.seq (.cond (.tmp 94) .skip (.exit 4)) (.seq (.block 5 (.seq (.reg [⟨some 95,.indexAddr 27 (.tmp 91) (.tmp 93),none⟩,⟨some 96,.load 29 (.tmp 95),none⟩,⟨some 15,.alloc 29,none⟩,⟨none,.store 29 (.tmp 15) (.tmp 96),none⟩]) (.drawn 26 [⟨some 97,.fieldAddr 29 (.tmp 5) 3,none⟩,⟨some 98,.load 27 (.tmp 97),none⟩,⟨some 99,.load 29 (.tmp 15),none⟩,⟨some 100,.move (.tmp 1),none⟩,⟨some 101,.call ⟨.value (.func 27),#[.tmp 99,.tmp 100],#[29,65]⟩,none⟩,⟨some 102,.buildSlice 27 1 #[(0,.tmp 101)],none⟩,⟨some 103,.call ⟨.builtin .append,#[.tmp 98,.tmp 102],#[27,27]⟩,none⟩,⟨some 104,.fieldAddr 29 (.tmp 5) 3,none⟩,⟨none,.store 27 (.tmp 104) (.tmp 103),none⟩]))) (.reg [⟨some 105,.binOp .add 3 (.tmp 93) (.const (.int .i64 1)) 3,none⟩,⟨some 93,.move (.tmp 105),none⟩])))
def x27_T4 : XC:=.seq (.seq (.reg [⟨some 90,.fieldAddr 29 (.tmp 2) 3,none⟩,⟨some 91,.load 27 (.tmp 90),none⟩,⟨some 92,.call ⟨.builtin .len,#[.tmp 91],#[27]⟩,none⟩,⟨some 93,.move (.const (.int .i64 0)),none⟩]) (.bloop 4 x27_L4)) (x27_T6)
def x27_T3 : XC:=.seq (.reg [⟨some 73,.fieldAddr 29 (.tmp 2) 1,none⟩,⟨some 74,.load 9 (.tmp 73),none⟩,⟨some 75,.move (.tmp 9),none⟩,⟨some 76,.call ⟨.value (.func 45),#[.tmp 74,.tmp 75],#[9,32]⟩,none⟩,⟨some 77,.fieldAddr 29 (.tmp 5) 1,none⟩,⟨none,.store 9 (.tmp 77) (.tmp 76),none⟩]) (.seq (.seq (.reg [⟨some 78,.fieldAddr 29 (.tmp 5) 1,none⟩,⟨some 79,.load 9 (.tmp 78),none⟩,⟨some 80,.fieldAddr 29 (.tmp 2) 1,none⟩,⟨some 81,.load 9 (.tmp 80),none⟩,⟨some 82,.binOp .neq 9 (.tmp 79) (.tmp 81) 9,none⟩]) (.cond (.tmp 82) (.reg [⟨some 83,.move (.tmp 8),none⟩,⟨some 84,.fieldAddr 29 (.tmp 2) 1,none⟩,⟨some 85,.load 9 (.tmp 84),none⟩,⟨some 86,.fieldAddr 29 (.tmp 5) 1,none⟩,⟨some 87,.load 9 (.tmp 86),none⟩,⟨some 88,.build 31 #[(0,.tmp 87)],none⟩,⟨none,.mapUpdate 65 (.tmp 83) (.tmp 85) (.tmp 88),none⟩]) .skip)) (.reg [⟨some 89,.move (.tmp 8),none⟩,⟨some 1,.assign (.tmp 89),none⟩]))
def x27_L2 : XC:=.seq (.reg [⟨some 51,.binOp .lss 3 (.tmp 50) (.tmp 49) 3,none⟩]) (.seq (.cond (.tmp 51) .skip (.exit 2)) (.seq (.block 3 (.seq (.reg [⟨some 52,.indexAddr 32 (.tmp 48) (.tmp 50),none⟩,⟨some 53,.load 9 (.tmp 52),none⟩,⟨some 11,.assign (.tmp 53),none⟩]) (.seq (.reg [⟨some 55,.move (.tmp 1),none⟩,⟨some 56,.move (.tmp 11),none⟩,⟨some 57,.lookup 65 (.tmp 55) (.tmp 56) true,none⟩,⟨some 54,.move (.tmp 57),none⟩,⟨some 58,.extract (.tmp 54) 0,none⟩,⟨some 59,.extract (.tmp 54) 1,none⟩,⟨some 12,.alloc 31,none⟩,⟨none,.store 31 (.tmp 12) (.tmp 58),none⟩,⟨some 13,.assign (.tmp 59),none⟩]) (.seq (.reg [⟨some 60,.move (.tmp 13),none⟩]) (.cond (.tmp 60) (.seq (.reg [⟨some 61,.move (.tmp 8),none⟩,⟨some 62,.move (.tmp 11),none⟩,⟨some 63,.load 31 (.tmp 12),none⟩,⟨none,.mapUpdate 65 (.tmp 61) (.tmp 62) (.tmp 63),none⟩]) (.reg [⟨some 64,.move (.tmp 9),none⟩,⟨some 65,.load 31 (.tmp 12),none⟩,⟨some 66,.call ⟨.value (.func 44),#[.tmp 65],#[31]⟩,none⟩,⟨some 67,.call ⟨.builtin .append,#[.tmp 64,.tmp 66],#[32,32]⟩,none⟩,⟨some 9,.assign (.tmp 67),none⟩])) (.reg [⟨some 68,.move (.tmp 9),none⟩,⟨some 69,.move (.tmp 11),none⟩,⟨some 70,.buildSlice 32 1 #[(0,.tmp 69)],none⟩,⟨some 71,.call ⟨.builtin .append,#[.tmp 68,.tmp 70],#[32,32]⟩,none⟩,⟨some 9,.assign (.tmp 71),none⟩])))))) (.reg [⟨some 72,.binOp .add 3 (.tmp 50) (.const (.int .i64 1)) 3,none⟩,⟨some 50,.move (.tmp 72),none⟩])))
def x27_T1 : XC:=.seq (.seq (.reg [⟨some 37,.fieldAddr 29 (.tmp 2) 0,none⟩,⟨some 38,.load 3 (.tmp 37),none⟩,⟨some 39,.binOp .eql 3 (.tmp 38) (.const (.int .i64 9)) 3,none⟩,⟨some 40,.move (.tmp 39),none⟩,⟨some 41,.fieldAddr 29 (.tmp 2) 0,some (some 40,false)⟩,⟨some 42,.load 3 (.tmp 41),some (some 40,false)⟩,⟨some 43,.binOp .eql 3 (.tmp 42) (.const (.int .i64 10)) 3,some (some 40,false)⟩,⟨some 44,.pick (.tmp 40) (.const (.bool true)) (.tmp 43),none⟩]) (.cond (.tmp 44) (.seq (.reg [⟨some 45,.makeMap 65 none,none⟩,⟨some 8,.assign (.tmp 45),none⟩]) (.seq (.reg [⟨some 46,.buildSlice 32 0 #[],none⟩,⟨some 9,.assign (.tmp 46),none⟩]) (.seq (.seq (.reg [⟨some 47,.load 29 (.tmp 2),none⟩,⟨some 48,.call ⟨.value (.func 39),#[.tmp 47],#[29]⟩,none⟩,⟨some 49,.call ⟨.builtin .len,#[.tmp 48],#[32]⟩,none⟩,⟨some 50,.move (.const (.int .i64 0)),none⟩]) (.bloop 2 x27_L2)) (x27_T3)))) .skip)) (x27_T4)
def x27_L0 : XC:=.seq (.reg [⟨some 25,.binOp .lss 3 (.tmp 24) (.tmp 23) 3,none⟩]) (.seq (.cond (.tmp 25) .skip (.exit 0)) (.seq (.block 1 (.seq (.reg [⟨some 26,.indexAddr 26 (.tmp 22) (.tmp 24),none⟩,⟨some 27,.load 31 (.tmp 26),none⟩,⟨some 7,.alloc 31,none⟩,⟨none,.store 31 (.tmp 7) (.tmp 27),none⟩]) (.drawn 5 [⟨some 28,.fieldAddr 29 (.tmp 5) 2,none⟩,⟨some 29,.load 26 (.tmp 28),none⟩,⟨some 30,.load 31 (.tmp 7),none⟩,⟨some 31,.move (.tmp 1),none⟩,⟨some 32,.call ⟨.value (.func 43),#[.tmp 30,.tmp 31],#[31,65]⟩,none⟩,⟨some 33,.buildSlice 26 1 #[(0,.tmp 32)],none⟩,⟨some 34,.call ⟨.builtin .append,#[.tmp 29,.tmp 33],#[26,26]⟩,none⟩,⟨some 35,.fieldAddr 29 (.tmp 5) 2,none⟩,⟨none,.store 26 (.tmp 35) (.tmp 34),none⟩]))) (.reg [⟨some 36,.binOp .add 3 (.tmp 24) (.const (.int .i64 1)) 3,none⟩,⟨some 24,.move (.tmp 36),none⟩])))
def x27 : XC:=.seq (.reg [⟨some 2,.box 29 (.tmp 0),none⟩,⟨some 4,.alloc 29,none⟩]) (.seq (.reg [⟨some 16,.fieldAddr 29 (.tmp 2) 0,none⟩,⟨some 17,.load 3 (.tmp 16),none⟩,⟨some 18,.fieldAddr 29 (.tmp 2) 1,none⟩,⟨some 19,.load 9 (.tmp 18),none⟩,⟨some 20,.build 29 #[(0,.tmp 17),(1,.tmp 19)],none⟩,⟨some 5,.alloc 29,none⟩,⟨none,.store 29 (.tmp 5) (.tmp 20),none⟩]) (.seq (.seq (.reg [⟨some 21,.fieldAddr 29 (.tmp 2) 2,none⟩,⟨some 22,.load 26 (.tmp 21),none⟩,⟨some 23,.call ⟨.builtin .len,#[.tmp 22],#[26]⟩,none⟩,⟨some 24,.move (.const (.int .i64 0)),none⟩]) (.bloop 0 x27_L0)) (x27_T1)))
@[simp] theorem x27_s {C e s K} : type_of% (@X_at C e s K _ _ x27_T6.eq_1) ∧ type_of% (@X_at C e s K _ _ x27_L4.eq_1) ∧ type_of% (@X_at C e s K _ _ x27_T4.eq_1) ∧ type_of% (@X_at C e s K _ _ x27_T3.eq_1) ∧ type_of% (@X_at C e s K _ _ x27_L2.eq_1) ∧ type_of% (@X_at C e s K _ _ x27_T1.eq_1) ∧ type_of% (@X_at C e s K _ _ x27_L0.eq_1) ∧ type_of% (@X_at C e s K _ _ x27.eq_1):=⟨X_at x27_T6.eq_1,X_at x27_L4.eq_1,X_at x27_T4.eq_1,X_at x27_T3.eq_1,X_at x27_L2.eq_1,X_at x27_T1.eq_1,X_at x27_L0.eq_1,X_at x27.eq_1⟩
def an27 : Ann:=⟨[(5,.mix 6),(26,.mix 6)],[(4,[(5,some 3,4),(1,some 5000,0)],[1,4,5,91,92,93],[4,5]),(2,[(9,none,1)],[1,2,4,5,8,9,48,49,50],[2,4,5,8,9]),(0,[(5,some 2,2)],[1,2,4,5,22,23,24],[1,2,4,5])],[]⟩
@[simp] theorem an27_a : an27.clsOf 5 = .mix 6 ∧ an27.clsOf 26 = .mix 6 ∧ an27.frzOf 5 = [] ∧ an27.frzOf 26 = [] ∧ an27.loopOf 4 = ([(5,some 3,4),(1,some 5000,0)],[1,4,5,91,92,93],[4,5]) ∧ an27.loopOf 2 = ([(9,none,1)],[1,2,4,5,8,9,48,49,50],[2,4,5,8,9]) ∧ an27.loopOf 0 = ([(5,some 2,2)],[1,2,4,5,22,23,24],[1,2,4,5]):=⟨rfl,rfl,rfl,rfl,rfl,rfl,rfl⟩
theorem fi27 : FI Try.prog 27 (cxA an27) x27 [.cell 4 29] Try.f27:=fiA Try.func27 mixed
theorem PutIn_first (sc : List ByteArray → List ByteArray) (hsl : ∀ l,(sc l).length ≤ l.length) (hsn : ∀ l,(sc l).Nodup) (hsm : ∀ l y,y ∈ sc l ↔ y ∈ l) (hF : ∀ e : Ex,szE e ≤ 300 → CallOK Try.prog 39 [.agg (exr e)] [] (.list ((freeX sc e).map strRow)) []) (e : Ex) : ∀ L : Mw,szE e ≤ 300 → SzL L → CallOK Try.prog 27 [.agg (exr e),.imap (mapW L)] [] (.agg (exr (putX sc freshN e L))) []:=by
 induction e using Ex.ind with
 | h e ih=>
  intro L hsz hL
  have he:=exr_eq e
  have hpw:=fun w h=>PutWord_first L (fun p hp=>by have:=hL p hp;omega) w h
  rw [putX_eq]
  refine fi27.os ?_
  (refine Sg.h ?_;try repeat' ((with_reducible first|refine brA ?_|refine brE fun _=>?_|refine spl ⟨?_,?_⟩<;>intro _)<;>((try simp -implicitDefEqProofs(disch:=first|assumption|(try simp only[lens]);omega -splitDisjunctions)))))
  refine W_of fun Q hQ=>?_
  obtain ⟨M,hM⟩ : ∃ M,e.words.map (putW L) = M:=⟨_,rfl⟩
  have hMl : M.length = e.words.length:=by rw [← hM,List.length_map]
  rw [szE_eq] at hsz
  obtain ⟨EX,hEX⟩ : ∃ EX,(if isQ e.k = true then Ex.mk e.k (newNm freshN L e.nm (freeX sc e)) (e.words.map (putW L)) (e.kids.map fun q=>putX sc freshN q (mapX freshN L e.nm (freeX sc e))) else Ex.mk e.k e.nm (e.words.map (putW L)) (e.kids.map fun q=>putX sc freshN q L)) = EX:=⟨_,rfl⟩
  rw [hEX] at hQ
  have hQ0:=hEX
  have key4 : ∀ (nm' : ByteArray) (L' : Mw) (es : List (PV × PV)),SzL L' → SoftM (mapW L') es → Ex.mk e.k nm' (e.words.map (putW L)) (e.kids.map fun q=>putX sc freshN q L') = EX → W (cxA an27 Try.prog 0) 4 x27_L4 (KS.seq x27_T6 (KS.fin [ResultVar.cell 4 29] fun v1 s1=>softV (deref s1 6 v1) = PV.agg (exr EX))) [(1,.imap es),(4,.ptr 0 0 0),(5,.ptr 1 0 0),(91,.list (e.kids.map exr)),(92,.int .i64 (e.kids.length : Int)),(93,.int .i64 0)] [.rows 4 [[.int .i64 0,.str ⟨#[]⟩,.nilsl,.nilsl]],.rows 4 [[.int .i64 e.k,.str nm',.sl 2 0 M.length,.sl 3 0 0]],.rows 2 (M.map wrd),.rows 4 []]:=by
   intro nm' L' es hL' hes hX
   subst hX
   refine W_of fun Q hQ=>?_
   obtain ⟨K,hK⟩ : ∃ K,(e.kids.map fun q=>putX sc freshN q L') = K:=⟨_,rfl⟩
   have hKl : K.length = e.kids.length:=by rw [← hK,List.length_map]
   rw [hK,hM] at hQ
   have hMe : exr (Ex.mk e.k nm' M K) = [.int .i64 e.k,.str nm',.list (M.map wrd),.list (K.map exr)]:=exr_eq _
   have hkl:=szEs_len e.kids
   have main : ∀ n i,i + n = e.kids.length → Q [(1,.imap es),(4,.ptr 0 0 0),(5,.ptr 1 0 0),(91,.list (e.kids.map exr)),(92,.int .i64 (e.kids.length : Int)),(93,.int .i64 (i : Int))] [.rows 4 [[.int .i64 0,.str ⟨#[]⟩,.nilsl,.nilsl]],.rows 4 [[.int .i64 e.k,.str nm',.sl 2 0 M.length,.sl 3 0 (K.take i).length]],.rows 2 (M.map wrd),.rows 4 ((K.take i).map exr)]:=by
    intro n
    induction n with
    | zero=>
     intro i hi
     rw [List.take_of_length_le (by omega)]
     have hi' : ¬ (i : Int) < (e.kids.length : Int):=by omega
     clear ih
     apply hQ
     clear hQ
     (refine Sg.h ?_;try repeat' ((with_reducible first|refine brA ?_|refine brE fun _=>?_|refine spl ⟨?_,?_⟩<;>intro _)<;>((try simp -implicitDefEqProofs(disch:=first|assumption|(try simp only[lens]);omega -splitDisjunctions) [hi',hMe]))))
    | succ n ihn=>
     intro i hi
     have hil : i < e.kids.length:=by omega
     have hilK : i < K.length:=by omega
     have hKi : K[i] = putX sc freshN e.kids[i] L':=by subst hK;rw [List.getElem_map]
     have ihn:=ihn (i + 1) (by omega)
     have hm:=List.getElem_mem hil
     have hc:=CallOK.soft (ih e.kids[i] hm L' (by have:=szEs_mem hm;omega) hL') (.cons .refl (.cons (.imap hes) .nil))
     rw [take_snocD hilK,hKi] at ihn
     have hlt : (K.take i).length ≤ 300:=by rw [List.length_take];omega
     have hi' : (i : Int) < (e.kids.length : Int):=by omega
     clear hK hKi hm ih
     generalize K.take i = T at *
     generalize hx : e.kids[i] = x at *
     generalize putX sc freshN x L' = y at *
     rw [List.map_append,List.map_singleton] at ihn
     apply hQ
     clear hQ
     (refine Sg.h ?_;try repeat' ((first|(with_reducible first|refine brA ?_|refine brE fun _=>?_|refine spl ⟨?_,?_⟩<;>intro _)|refine clo hc ?_)<;>((try simp -implicitDefEqProofs(disch:=first|assumption|(try simp only[lens]);omega -splitDisjunctions) [hi',hil,hx]))))
     all_goals first|exact ihn|(refine at2 ihn ?_ ?_<;>simp;done)|(exfalso;first|omega|(simp_all;done)|(simp_all;omega))
   all_goals first|exact main e.kids.length 0 (Nat.zero_add _)|(refine at2 main e.kids.length 0 (Nat.zero_add _) ?_ ?_<;>simp;done)|(exfalso;first|omega|(simp_all;done)|(simp_all;omega))
  have main : ∀ n i,i + n = e.words.length → Q [(1,.imap (mapW L)),(2,.ptr 0 0 0),(4,.ptr 1 0 0),(5,.ptr 2 0 0),(22,.list (e.words.map wrd)),(23,.int .i64 (e.words.length : Int)),(24,.int .i64 (i : Int))] [.rows 4 [exr e],.rows 4 [[.int .i64 0,.str ⟨#[]⟩,.nilsl,.nilsl]],.rows 4 [[.int .i64 e.k,.str e.nm,.sl 3 0 (M.take i).length,.nilsl]],.rows 2 ((M.take i).map wrd)]:=by
   intro n
   induction n with
   | zero=>
    intro i hi
    rw [List.take_of_length_le (by omega)]
    have hi' : ¬ (i : Int) < (e.words.length : Int):=by omega
    apply hQ
    clear hQ
    cases hQk : isQ e.k with
    | false=>
     rw [hQk] at hQ0
     have hk9 : ¬ e.k = 9:=by intro g;simp [isQ,g] at hQk
     have hk10 : ¬ e.k = 10:=by intro g;simp [isQ,g] at hQk
     rw [if_neg (by simp)] at hQ0
     have key:=key4 e.nm L (mapW L) hL (SoftM.rfl' _) hQ0
     (refine Sg.h ?_;try repeat' ((with_reducible first|refine brA ?_|refine brE fun _=>?_|refine spl ⟨?_,?_⟩<;>intro _)<;>((try simp -implicitDefEqProofs(disch:=first|assumption|(try simp only[lens]);omega -splitDisjunctions) [hi',hk9,hk10]))))
     exact key
    | true=>
     have hfr:=hF e (by rw [szE_eq];omega)
     by_cases hk9 : e.k = 9
     ·(refine Sg.h ?_;try repeat' ((first|(with_reducible first|refine brA ?_|refine brE fun _=>?_|refine spl ⟨?_,?_⟩<;>intro _)|refine clo hfr ?_)<;>((try simp -implicitDefEqProofs(disch:=first|assumption|(try simp only[lens]);omega -splitDisjunctions) [hi',hk9]))))
      refine W_of fun Q2 hQ2=>?_
      obtain ⟨G,hG⟩ : ∃ G,freeX sc e = G:=⟨_,rfl⟩
      have hGl : G.length ≤ 300:=by have:=freeX_sz hsl e;rw [hG,szE_eq] at this;omega
      have hGn : G.Nodup:=by rw [← hG,freeX_eq];exact hsn _
      have htl : ∀ i,((G.take i).flatMap (takenX L)).length ≤ 90000:=fun i=>by
       have h1:=flatD_len (g:=takenX L) (b:=300) (G.take i) fun y _=>takenX_sz hL y
       have h2 : (G.take i).length ≤ 300:=by rw [List.length_take];omega
       have h3 : (G.take i).length * 300 ≤ 300 * 300:=Nat.mul_le_mul_right 300 h2
       omega
      rw [hG]
      have main2 : ∀ n i,i + n = G.length → Q2 [(1,.imap (mapW L)),(2,.ptr 0 0 0),(4,.ptr 1 0 0),(5,.ptr 2 0 0),(8,.mapv 3),(9,.sl 4 0 ((G.take i).flatMap (takenX L)).length),(48,.list (G.map strRow)),(49,.int .i64 (G.length : Int)),(50,.int .i64 (i : Int))] [.rows 4 [exr e],.rows 4 [[.int .i64 0,.str ⟨#[]⟩,.nilsl,.nilsl]],.rows 4 [[.int .i64 9,.str e.nm,.sl 5 0 M.length,.nilsl]],.map (mapW (nowL L (G.take i))),.rows 1 (((G.take i).flatMap (takenX L)).map strRow),.rows 2 (M.map wrd)]:=by
       intro n
       induction n with
       | zero=>
        intro i hi
        rw [List.take_of_length_le (by omega)]
        have hi' : ¬ (i : Int) < (G.length : Int):=by omega
        apply hQ2
        clear hQ2
        (refine Sg.h ?_;try repeat' ((with_reducible first|refine brA ?_|refine brE fun _=>?_|refine spl ⟨?_,?_⟩<;>intro _)<;>((try simp -implicitDefEqProofs(disch:=first|assumption|(try simp only[lens]);omega -splitDisjunctions) [hi',hk9]))))
        have hfs:=Fresh_first e.nm (G.flatMap (takenX L)) (by have:=htl G.length;rw [List.take_length] at this;omega)
        refine CL.see hfs (by simp;exact List.take_of_length_le (by simp)) (flat_str _) ?_
        obtain ⟨nm',hnm'⟩ : ∃ nm',freshN e.nm (G.flatMap (takenX L)) = nm':=⟨_,rfl⟩
        rw [hnm']
        by_cases hne : nm' = e.nm
        ·rw [hQk,if_pos rfl] at hQ0
         unfold mapX newNm at hQ0
         rw [hG,hnm',if_neg (fun g=>g hne),List.append_nil,hne] at hQ0
         have key:=key4 e.nm (nowL L G) (mapW (nowL L G)) (now_sz hL G) (SoftM.rfl' _) hQ0
         rw [hk9] at key
         (refine Sg.h ?_;try repeat' ((with_reducible first|refine brA ?_|refine brE fun _=>?_|refine spl ⟨?_,?_⟩<;>intro _)<;>((try simp -implicitDefEqProofs(disch:=first|assumption|(try simp only[lens]);omega -splitDisjunctions) [hne,hk9]))))
         exact key
        ·rw [hQk,if_pos rfl] at hQ0
         unfold mapX newNm at hQ0
         rw [hG,hnm',if_pos hne] at hQ0
         have hnot : e.nm ∉ G:=by
          rw [← hG,freeX_eq,hQk,if_pos rfl,hsm]
          intro g
          have:=(List.mem_filter.1 g).2
          simp at this
         have hnw:=(findP_wd e.nm (nowL L G) 0).1 (lookW_free hnot)
         have key:=key4 nm' (nowL L G ++ [(e.nm,.mk nm' [])]) (mapW (nowL L G) ++ [(.str e.nm,.agg [.str nm',.nilsl])]) (fun p hp=>by
          rcases List.mem_append.1 hp with h | h
          ·exact now_sz hL G p h
          ·rw [List.mem_singleton.1 h];simp [szW,szWs]) (by
          have e1 : mapW (nowL L G ++ [(e.nm,Wd.mk nm' [])]) = mapW (nowL L G) ++ [(.str e.nm,.agg [.str nm',.list []])]:=by simp [mapW,wrd,wrds]
          rw [e1]
          exact (SoftM.rfl' _).app (.cons (.agg (.cons .refl (.cons .nil .nil))) .nil)) hQ0
         rw [hk9] at key
         (refine Sg.h ?_;try repeat' ((with_reducible first|refine brA ?_|refine brE fun _=>?_|refine spl ⟨?_,?_⟩<;>intro _)<;>((try simp -implicitDefEqProofs(disch:=first|assumption|(try simp only[lens]);omega -splitDisjunctions) [hne,hnw,hk9]))))
         exact key
       | succ n ihn=>
        intro i hi
        have hil : i < G.length:=by omega
        have ihn:=ihn (i + 1) (by omega)
        rw [take_snocD hil,nowL_snoc,List.flatMap_append] at ihn
        have hno : G[i] ∉ G.take i:=by
         intro h
         obtain ⟨j,hj,hje⟩:=List.mem_iff_getElem.1 h
         rw [List.length_take] at hj
         rw [List.getElem_take] at hje
         have:=(List.getElem_inj hGn).1 hje
         omega
        have hnw:=(findP_wd G[i] (nowL L (G.take i)) 0).1 (lookW_free hno)
        obtain ⟨f1,f2⟩:=findP_wd G[i] L 0
        have ht:=htl i
        have hux:=takenX_sz hL G[i]
        have hi' : (i : Int) < (G.length : Int):=by omega
        have hone : [G[i]].flatMap (takenX L) = takenX L G[i]:=by simp
        rw [hone] at ihn
        clear hone hno htl
        generalize hx : G[i] = x at *
        generalize (G.take i).flatMap (takenX L) = T at *
        generalize nowL L (G.take i) = W at *
        clear ih key4
        apply hQ2
        clear hQ2
        cases hl : lookW x L with
        | some w=>
         obtain ⟨j,f3,f4⟩:=f2 w hl
         have hws:=hL _ (lookD_mem hl)
         have hv:=Vars_first w (by dsimp only at hws;omega)
         unfold takenX at ihn hux
         rw [hl] at ihn hux
         dsimp only at ihn hux
         have hsn2:=mapW_snoc W x w
         generalize varsW w = U at *
         rw [List.map_append] at ihn
         (refine Sg.h ?_;try repeat' ((first|(with_reducible first|refine brA ?_|refine brE fun _=>?_|refine spl ⟨?_,?_⟩<;>intro _)|refine clo hv ?_)<;>((try simp -implicitDefEqProofs(disch:=first|assumption|(try simp only[lens]);omega -splitDisjunctions) [hi',hil,hx,f3,hnw,hsn2]))))
         all_goals first|exact ihn|(refine at2 ihn ?_ ?_<;>simp;done)|(exfalso;first|omega|(simp_all;done)|(simp_all;omega))
        | none=>
         have f1:=f1 hl
         unfold takenX at ihn
         rw [hl] at ihn
         dsimp only at ihn
         rw [List.append_nil,List.map_append,List.map_singleton] at ihn
         (refine Sg.h ?_;try repeat' ((with_reducible first|refine brA ?_|refine brE fun _=>?_|refine spl ⟨?_,?_⟩<;>intro _)<;>((try simp -implicitDefEqProofs(disch:=first|assumption|(try simp only[lens]);omega -splitDisjunctions) [hi',hil,hx,f1]))))
         all_goals first|exact ihn|(refine at2 ihn ?_ ?_<;>simp;done)|(exfalso;first|omega|(simp_all;done)|(simp_all;omega))
      all_goals first|exact main2 G.length 0 (Nat.zero_add _)|(refine at2 main2 G.length 0 (Nat.zero_add _) ?_ ?_<;>simp;done)|(exfalso;first|omega|(simp_all;done)|(simp_all;omega))
     ·have hk10 : e.k = 10 := by simp [isQ,hk9] at hQk; exact hQk
      (refine Sg.h ?_;try repeat' ((first|(with_reducible first|refine brA ?_|refine brE fun _=>?_|refine spl ⟨?_,?_⟩<;>intro _)|refine clo hfr ?_)<;>((try simp -implicitDefEqProofs(disch:=first|assumption|(try simp only[lens]);omega -splitDisjunctions) [hi',hk9,hk10]))))
      refine W_of fun Q2 hQ2=>?_
      obtain ⟨G,hG⟩ : ∃ G,freeX sc e = G:=⟨_,rfl⟩
      have hGl : G.length ≤ 300:=by have:=freeX_sz hsl e;rw [hG,szE_eq] at this;omega
      have hGn : G.Nodup:=by rw [← hG,freeX_eq];exact hsn _
      have htl : ∀ i,((G.take i).flatMap (takenX L)).length ≤ 90000:=fun i=>by
       have h1:=flatD_len (g:=takenX L) (b:=300) (G.take i) fun y _=>takenX_sz hL y
       have h2 : (G.take i).length ≤ 300:=by rw [List.length_take];omega
       have h3 : (G.take i).length * 300 ≤ 300 * 300:=Nat.mul_le_mul_right 300 h2
       omega
      rw [hG]
      have main2 : ∀ n i,i + n = G.length → Q2 [(1,.imap (mapW L)),(2,.ptr 0 0 0),(4,.ptr 1 0 0),(5,.ptr 2 0 0),(8,.mapv 3),(9,.sl 4 0 ((G.take i).flatMap (takenX L)).length),(48,.list (G.map strRow)),(49,.int .i64 (G.length : Int)),(50,.int .i64 (i : Int))] [.rows 4 [exr e],.rows 4 [[.int .i64 0,.str ⟨#[]⟩,.nilsl,.nilsl]],.rows 4 [[.int .i64 10,.str e.nm,.sl 5 0 M.length,.nilsl]],.map (mapW (nowL L (G.take i))),.rows 1 (((G.take i).flatMap (takenX L)).map strRow),.rows 2 (M.map wrd)]:=by
       intro n
       induction n with
       | zero=>
        intro i hi
        rw [List.take_of_length_le (by omega)]
        have hi' : ¬ (i : Int) < (G.length : Int):=by omega
        apply hQ2
        clear hQ2
        (refine Sg.h ?_;try repeat' ((with_reducible first|refine brA ?_|refine brE fun _=>?_|refine spl ⟨?_,?_⟩<;>intro _)<;>((try simp -implicitDefEqProofs(disch:=first|assumption|(try simp only[lens]);omega -splitDisjunctions) [hi',hk9,hk10]))))
        have hfs:=Fresh_first e.nm (G.flatMap (takenX L)) (by have:=htl G.length;rw [List.take_length] at this;omega)
        refine CL.see hfs (by simp;exact List.take_of_length_le (by simp)) (flat_str _) ?_
        obtain ⟨nm',hnm'⟩ : ∃ nm',freshN e.nm (G.flatMap (takenX L)) = nm':=⟨_,rfl⟩
        rw [hnm']
        by_cases hne : nm' = e.nm
        ·rw [hQk,if_pos rfl] at hQ0
         unfold mapX newNm at hQ0
         rw [hG,hnm',if_neg (fun g=>g hne),List.append_nil,hne] at hQ0
         have key:=key4 e.nm (nowL L G) (mapW (nowL L G)) (now_sz hL G) (SoftM.rfl' _) hQ0
         rw [hk10] at key
         (refine Sg.h ?_;try repeat' ((with_reducible first|refine brA ?_|refine brE fun _=>?_|refine spl ⟨?_,?_⟩<;>intro _)<;>((try simp -implicitDefEqProofs(disch:=first|assumption|(try simp only[lens]);omega -splitDisjunctions) [hne,hk9,hk10]))))
         exact key
        ·rw [hQk,if_pos rfl] at hQ0
         unfold mapX newNm at hQ0
         rw [hG,hnm',if_pos hne] at hQ0
         have hnot : e.nm ∉ G:=by
          rw [← hG,freeX_eq,hQk,if_pos rfl,hsm]
          intro g
          have:=(List.mem_filter.1 g).2
          simp at this
         have hnw:=(findP_wd e.nm (nowL L G) 0).1 (lookW_free hnot)
         have key:=key4 nm' (nowL L G ++ [(e.nm,.mk nm' [])]) (mapW (nowL L G) ++ [(.str e.nm,.agg [.str nm',.nilsl])]) (fun p hp=>by
          rcases List.mem_append.1 hp with h | h
          ·exact now_sz hL G p h
          ·rw [List.mem_singleton.1 h];simp [szW,szWs]) (by
          have e1 : mapW (nowL L G ++ [(e.nm,Wd.mk nm' [])]) = mapW (nowL L G) ++ [(.str e.nm,.agg [.str nm',.list []])]:=by simp [mapW,wrd,wrds]
          rw [e1]
          exact (SoftM.rfl' _).app (.cons (.agg (.cons .refl (.cons .nil .nil))) .nil)) hQ0
         rw [hk10] at key
         (refine Sg.h ?_;try repeat' ((with_reducible first|refine brA ?_|refine brE fun _=>?_|refine spl ⟨?_,?_⟩<;>intro _)<;>((try simp -implicitDefEqProofs(disch:=first|assumption|(try simp only[lens]);omega -splitDisjunctions) [hne,hnw,hk9,hk10]))))
         exact key
       | succ n ihn=>
        intro i hi
        have hil : i < G.length:=by omega
        have ihn:=ihn (i + 1) (by omega)
        rw [take_snocD hil,nowL_snoc,List.flatMap_append] at ihn
        have hno : G[i] ∉ G.take i:=by
         intro h
         obtain ⟨j,hj,hje⟩:=List.mem_iff_getElem.1 h
         rw [List.length_take] at hj
         rw [List.getElem_take] at hje
         have:=(List.getElem_inj hGn).1 hje
         omega
        have hnw:=(findP_wd G[i] (nowL L (G.take i)) 0).1 (lookW_free hno)
        obtain ⟨f1,f2⟩:=findP_wd G[i] L 0
        have ht:=htl i
        have hux:=takenX_sz hL G[i]
        have hi' : (i : Int) < (G.length : Int):=by omega
        have hone : [G[i]].flatMap (takenX L) = takenX L G[i]:=by simp
        rw [hone] at ihn
        clear hone hno htl
        generalize hx : G[i] = x at *
        generalize (G.take i).flatMap (takenX L) = T at *
        generalize nowL L (G.take i) = W at *
        clear ih key4
        apply hQ2
        clear hQ2
        cases hl : lookW x L with
        | some w=>
         obtain ⟨j,f3,f4⟩:=f2 w hl
         have hws:=hL _ (lookD_mem hl)
         have hv:=Vars_first w (by dsimp only at hws;omega)
         unfold takenX at ihn hux
         rw [hl] at ihn hux
         dsimp only at ihn hux
         have hsn2:=mapW_snoc W x w
         generalize varsW w = U at *
         rw [List.map_append] at ihn
         (refine Sg.h ?_;try repeat' ((first|(with_reducible first|refine brA ?_|refine brE fun _=>?_|refine spl ⟨?_,?_⟩<;>intro _)|refine clo hv ?_)<;>((try simp -implicitDefEqProofs(disch:=first|assumption|(try simp only[lens]);omega -splitDisjunctions) [hi',hil,hx,f3,hnw,hsn2]))))
         all_goals first|exact ihn|(refine at2 ihn ?_ ?_<;>simp;done)|(exfalso;first|omega|(simp_all;done)|(simp_all;omega))
        | none=>
         have f1:=f1 hl
         unfold takenX at ihn
         rw [hl] at ihn
         dsimp only at ihn
         rw [List.append_nil,List.map_append,List.map_singleton] at ihn
         (refine Sg.h ?_;try repeat' ((with_reducible first|refine brA ?_|refine brE fun _=>?_|refine spl ⟨?_,?_⟩<;>intro _)<;>((try simp -implicitDefEqProofs(disch:=first|assumption|(try simp only[lens]);omega -splitDisjunctions) [hi',hil,hx,f1]))))
         all_goals first|exact ihn|(refine at2 ihn ?_ ?_<;>simp;done)|(exfalso;first|omega|(simp_all;done)|(simp_all;omega))
      all_goals first|exact main2 G.length 0 (Nat.zero_add _)|(refine at2 main2 G.length 0 (Nat.zero_add _) ?_ ?_<;>simp;done)|(exfalso;first|omega|(simp_all;done)|(simp_all;omega))
   | succ n ihn=>
    intro i hi
    have hil : i < e.words.length:=by omega
    have hilM : i < M.length:=by omega
    have hMi : M[i] = putW L e.words[i]:=by subst hM;rw [List.getElem_map]
    have ihn:=ihn (i + 1) (by omega)
    have hm:=List.getElem_mem hil
    have hc:=hpw e.words[i] (by have:=szWs_mem hm;omega)
    have hwl:=szWs_len e.words
    rw [take_snocD hilM,hMi] at ihn
    have hlt : (M.take i).length ≤ 30000:=by rw [List.length_take];omega
    have hi' : (i : Int) < (e.words.length : Int):=by omega
    clear hM hMi hm
    generalize M.take i = T at *
    generalize hx : e.words[i] = x at *
    generalize putW L x = y at *
    rw [List.map_append,List.map_singleton] at ihn
    clear ih key4
    apply hQ
    clear hQ
    (refine Sg.h ?_;try repeat' ((first|(with_reducible first|refine brA ?_|refine brE fun _=>?_|refine spl ⟨?_,?_⟩<;>intro _)|refine clo hc ?_)<;>((try simp -implicitDefEqProofs(disch:=first|assumption|(try simp only[lens]);omega -splitDisjunctions) [hi',hil,hx]))))
    all_goals first|exact ihn|(refine at2 ihn ?_ ?_<;>simp;done)|(exfalso;first|omega|(simp_all;done)|(simp_all;omega))
  all_goals first|exact main e.words.length 0 (Nat.zero_add _)|(refine at2 main e.words.length 0 (Nat.zero_add _) ?_ ?_<;>simp;done)|(exfalso;first|omega|(simp_all;done)|(simp_all;omega))
end Go.Proofs.Ytbimioonhfhflaa
namespace Go.Pv
open Go Go.Lib
def Ris (l : List ByteArray) : Prop:=l.Pairwise fun a b=>toL a < toL b
theorem lt_tri (a b : List UInt8) : a < b ∨ a = b ∨ b < a:=by
 rcases List.le_total a b with h | h
 ·by_cases e : a = b
  ·exact .inr (.inl e)
  ·exact .inl (Decidable.byContradiction fun hn=>e (List.le_antisymm h (List.not_lt.1 hn)))
 ·by_cases e : a = b
  ·exact .inr (.inl e)
  ·exact .inr (.inr (Decidable.byContradiction fun hn=>e (List.le_antisymm (List.not_lt.1 hn) h)))
theorem lt_irr (a : List UInt8) : ¬ a < a:=List.lt_irrefl a
theorem comp_upTo (zs : List (List UInt8)) (hs : zs.Pairwise fun a b=>a ≤ b) : ∀ m,m ≤ zs.length → (∀ x,x ∈ compactUpTo zs.toArray m ↔ x ∈ zs.take m) ∧ (compactUpTo zs.toArray m).Pairwise fun a b=>a < b:=by
 intro m
 induction m with
 | zero=>intro _;simp [compactUpTo]
 | succ m ih=>
  intro hm
  obtain ⟨h1,h2⟩:=ih (by omega)
  have hml : m < zs.length:=by omega
  have hget : zs.toArray[m]! = zs[m]:=by rw [getElem!_pos _ _ (by simpa using hml)];simp
  rw [compactUpTo_succ,List.take_add_one,List.getElem?_eq_getElem hml]
  simp only [Option.toList]
  have hord : ∀ i j (hi : i < zs.length) (hj : j < zs.length),i < j → zs[i] ≤ zs[j]:=fun i j hi hj hij=>List.pairwise_iff_getElem.1 hs i j hi hj hij
  by_cases hk : keeps zs.toArray m = true
  ·rw [if_pos hk,hget]
   refine ⟨fun x=>by rw [List.mem_append,List.mem_append,h1],?_⟩
   rw [List.pairwise_append]
   refine ⟨h2,List.pairwise_singleton _ _,fun a ha b hb=>?_⟩
   rw [List.mem_singleton] at hb
   subst hb
   rw [h1] at ha
   obtain ⟨i,hi,rfl⟩:=List.getElem_of_mem ha
   rw [List.length_take] at hi
   rw [List.getElem_take]
   have hle:=hord i m (by omega) hml (by omega)
   rcases lt_tri zs[i] zs[m] with h | h | h
   ·exact h
   ·exfalso
    simp only [keeps,decide_eq_true_eq] at hk
    rcases hk with hk | hk
    ·omega
    ·rw [hget,getElem!_pos _ _ (by simp; omega)] at hk
     simp only [List.getElem_toArray] at hk
     apply hk
     have g1:=hord (m - 1) m (by omega) hml (by omega)
     by_cases e : i = m - 1
     ·subst e;exact h.symm
     ·have g2 := hord i (m - 1) (by omega) (by omega) (by omega)
      rw [h] at g2
      exact List.le_antisymm g2 g1
   ·exact absurd h (List.not_lt.2 hle)
  ·rw [if_neg hk,List.append_nil]
   refine ⟨fun x=>?_,h2⟩
   rw [h1,List.mem_append,List.mem_singleton]
   constructor
   ·exact .inl
   ·rintro (h | rfl)
    ·exact h
    ·simp only [keeps,decide_eq_true_eq,not_or,Decidable.not_not] at hk
     obtain ⟨h0,hk⟩:=hk
     rw [hget,getElem!_pos _ _ (by simp;omega)] at hk
     simp only [List.getElem_toArray] at hk
     rw [hk]
     rw [List.mem_take_iff_getElem]
     exact ⟨m - 1,by omega,rfl⟩
theorem comp_ok (l : List ByteArray) : Ris (compL (sortL l)) ∧ ∀ x,x ∈ compL (sortL l) ↔ x ∈ l:=by
 have hs : ((sortL l).map toL).Pairwise fun a b=>a ≤ b:=by
  rw [sortL_toL]
  have:=List.pairwise_mergeSort (le:=fun x y : List UInt8=>decide (x ≤ y)) (fun a b c h1 h2=>by simpa using List.le_trans (by simpa using h1) (by simpa using h2)) (fun a b=>by simpa using List.le_total a b) (l.map toL)
  simpa using this
 obtain ⟨h1,h2⟩:=comp_upTo _ hs ((sortL l).map toL).length (Nat.le_refl _)
 constructor
 ·unfold Ris compL
  rw [List.pairwise_map]
  refine h2.imp fun h=>?_
  rw [toL_ofL,toL_ofL];exact h
 ·intro x
  unfold compL
  rw [List.mem_map]
  constructor
  ·rintro ⟨y,hy,rfl⟩
   have:=(h1 y).1 hy
   rw [List.take_length,sortL_toL,List.mem_mergeSort,List.mem_map] at this
   obtain ⟨b,hb,rfl⟩:=this
   rw [ofL_toL];exact hb
  ·intro hx
   refine ⟨toL x,(h1 _).2 ?_,ofL_toL x⟩
   rw [List.take_length,sortL_toL,List.mem_mergeSort]
   exact List.mem_map.2 ⟨x,hx,rfl⟩
theorem comp_nodup (l : List ByteArray) : (compL (sortL l)).Nodup:=by
 refine (comp_ok l).1.imp ?_
 intro a b h e
 subst e
 exact lt_irr _ h
end Go.Pv
namespace Go.Pv
open Go
theorem RetView.frz {m : Nat} (F : List Nat) (v : PV) (s : Store) : RetView m v s (frzV F s v) (s.mapIdx (frzO F s)):=by
 intro C pub σ w cv hC hs hr
 have her : ER pub σ ⟨1,[],[]⟩ (envOf [(0,v)]) { tmps:=#[cv],defers:=[] }:=by
  refine ⟨rfl,rfl,fun _ _ h=>(by cases h),fun t=>?_⟩
  by_cases ht : t = 0
  ·subst ht;simpa [envOf] using hr
  ·have : envOf [(0,v)] t = .any := by simp [envOf,ht]
   rw [this];exact .any
 obtain ⟨p,q,h1,h2⟩:=withFrz_view (m:=m) F [(0,v)] C pub σ _ w ⟨1,[],[]⟩ hC hs her
 exact ⟨p,q,h1,by simpa [withFrz,envOf,frzV] using h2.rel 0⟩
def OZ (F : List Nat) (m : Nat) (v : PV) (s' : Store) (v1 : PV) (s1 : Store) : Prop:=gcFin m v s' (frzV F s1 v1) (s1.mapIdx (frzO F s1))
def ozFin (m : Nat) (v : PV) (s' : Store) (v1 : PV) (s1 : Store) : Prop:=OZ (grow s1 64 ((refsN 4 v1).filter fun r=>!r.2) []) m v s' v1 s1
@[simp] theorem ozFin_eq {m : Nat} {v v1 : PV} {s1 s' : Store} : ozFin m v s' v1 s1 = OZ (grow s1 64 ((refsN 4 v1).filter fun r=>!r.2) []) m v s' v1 s1:=rfl
theorem frzV_nil {s : Store} {v : PV} : frzV [] s v = v:=by unfold frzV;simp
theorem frzO_nil {s : Store} {i : Nat} {o : PObj} : frzO [] s i o = o:=by
 unfold frzO
 have h : frzV [] s = id:=by funext v;exact frzV_nil
 have h2 : List.map (frzV [] s) = id:=by rw [h];funext l;simp
 rw [if_neg (by simp)]
 cases o <;> simp [h,h2]
@[simp] theorem OZ_nil {m : Nat} {v v1 : PV} {s1 s' : Store} : OZ [] m v s' v1 s1 = gcFin m v s' v1 s1:=by
 unfold OZ
 have : s1.mapIdx (frzO [] s1) = s1:=by
  apply List.ext_getElem?
  intro i
  rw [List.getElem?_mapIdx]
  cases s1[i]? <;> simp [frzO_nil]
 rw [frzV_nil,this]
@[simp] theorem OZ_cons {i : Nat} {F : List Nat} {m : Nat} {v v1 : PV} {s1 s' : Store} : OZ (i :: F) m v s' v1 s1 = gcFin m v s' (frzV (i :: F) s1 v1) (s1.mapIdx (frzO (i :: F) s1)):=rfl
theorem ozFin_ret {m : Nat} {v v1 : PV} {s1 s' : Store} (h : ozFin m v s' v1 s1) : RetView m v1 s1 v s':=RetView.trans (RetView.frz _ _ _) (gcFin_ret h)
section
variable {C : WC} {d : Option Tmp} {fid : FuncId} {vs : List PV} {e : AE} {s s2 : Store} {K : KS} {v : PV} {t : RT}
theorem CT.of [EnT C.P fid] (hc : CallOK C.P fid vs s v s2) (hk : TR C t (updA e d v) s2 K) : CT C d (some (fid,vs)) t e s K:=⟨fid,vs,rfl,EnT.h,.inl ⟨v,s2,hc,hk⟩⟩
theorem CT.sub [EnT C.P fid] (ρ : List Nat) (hc : CallOK C.P fid (vs.map (renN ρ 4)) (liveS ρ s ρ) v s2) (hk : TR C t (updA e d (upN (ρ ++ List.range' s.length (s2.length - ρ.length)) 4 v)) (backS ρ s s2) K)
  (hnd : ρ.Nodup:=by simp) (hin : ∀ i ∈ ρ,i < s.length:=by simp) (hlen : ρ.length ≤ s2.length:=by simp) : CT C d (some (fid,vs)) t e s K:=by
 refine ⟨fid,vs,rfl,EnT.h,.inl ⟨_,_,CallOK.sub ρ hnd hin hlen ?_,hk⟩⟩
 have : ∀ L : List Nat,liveS ρ s L = L.map fun i=>renObj ρ ((s[i]?).getD .dead):=by
  intro L;induction L with
  | nil=>rfl
  | cons i r ih=>rw [liveS,ih];rfl
 rwa [← this]
end
def killO (D : List Nat) (i : Nat) (o : PObj) : PObj:=if i ∈ D then .dead else o
theorem RetView.kill {m : Nat} (D : List Nat) (v : PV) (s : Store) : RetView m v s v (s.mapIdx (killO D)):=by
 intro C pub σ w cv hC hs hr
 refine ⟨pub,σ,hs.sub (by simp) fun k o h hd=>?_,hr⟩
 rw [List.getElem?_mapIdx] at h
 cases hk : s[k]? with
 | none=>rw [hk] at h;cases h
 | some o1=>
  rw [hk] at h
  simp only [Option.map_some,Option.some.injEq] at h
  unfold killO at h
  split at h
  ·exact absurd h.symm hd
  ·rw [h]
def odFin (D : List Nat) (m : Nat) (v : PV) (s' : Store) (v1 : PV) (s1 : Store) : Prop:=ozFin m v s' v1 (s1.mapIdx (killO D))
@[simp] theorem odFin_eq {D : List Nat} {m : Nat} {v v1 : PV} {s1 s' : Store} : odFin D m v s' v1 s1 = ozFin m v s' v1 (s1.mapIdx (killO D)):=rfl
@[simp] theorem killO_eq {D : List Nat} {i : Nat} {o : PObj} : killO D i o = if i ∈ D then .dead else o:=rfl
theorem FI.od {P : Program} {F : FuncId} {C : Program → Nat → WC} {x : XC} {rs : List ResultVar} {fn : Func} (i : FI P F C x rs fn) (D : List Nat) {args : List PV} {v : PV} {s s' : Store} (h : X (C P s.length) x (argsA 0 args) s (.fin rs (odFin D s.length v s'))) (hl : Nat.ble args.length fn.ntmps = true:=by exact rfl) : CallOK P F args s v s':=
 FI.ops i _ (fun v1 s1 h=>RetView.trans (RetView.kill D _ _) (ozFin_ret h)) h hl
end Go.Pv
