import Derived.Test.YtbimioonhfhflaaDMnH
set_option linter.unusedVariables false
set_option linter.unusedSimpArgs false
set_option maxRecDepth 100000
set_option maxHeartbeats 4000000
namespace Go.Proofs.Ytbimioonhfhflaa
open Go Go.Pv
@[simp] theorem mapI_deref {s : Store} {n : Nat} (L : Ev) : (mapI L).map (fun p=>(deref s n p.1,deref s n p.2)) = mapI L:=by simp [mapI]
section
variable {C : WC} {f : Operand} {args : Array Operand} {d : Option Tmp} {fid : FuncId} {vs : List PV} {e : AE} {rest : Store} {L L' : Ev} {K : KS} {ops : List LOp}
theorem liveE : liveS [0] (stE L ++ rest) [0] = stE L:=by simp [liveS]
theorem cl_en [EnT C.P fid] {v : PV} (hc : CallOK C.P fid vs (stE L) v (stE L')) (hk : O C .pl ops (updA e d (upN [0] 4 v)) (backS [0] (stE L ++ rest) (stE L')) K) (hv : vs.map (renN [0] 4) = vs:=by simp) : CL C f args d (some (fid,vs)) ops e (stE L ++ rest) K:=by
 refine CL.sub [0] (s2:=stE L') (v:=v) (by rw [hv,liveE];exact hc) ?_
 exact hk
theorem ct_en {t : RT} [EnT C.P fid] {v : PV} (hc : CallOK C.P fid vs (stE L) v (stE L')) (hk : TR C t (updA e d (upN [0] 4 v)) (backS [0] (stE L ++ rest) (stE L')) K) (hv : vs.map (renN [0] 4) = vs:=by simp) : CT C d (some (fid,vs)) t e (stE L ++ rest) K:=by
 refine CT.sub [0] (s2:=stE L') (v:=v) (by rw [hv,liveE];exact hc) ?_
 exact hk
end
theorem findP_any (x : ByteArray) (L : Ev) : ∃ r,findP (.str x) (mapI L) 0 = some r:=by
 obtain ⟨f1,f2⟩:=findP_int x L 0
 cases h : lookI x L with
 | none=>exact ⟨_,f1 h⟩
 | some m=>obtain ⟨j,h1,_⟩:=f2 m h;exact ⟨_,h1⟩
theorem envI_rng {N : Int} {x : ByteArray} {L : Ev} {v : Int} (hk : Keys L) (hE : ∀ y,0 ≤ envI L y ∧ envI L y < N) (h0 : 0 ≤ v) (h1 : v < N) : ∀ y,0 ≤ envI (putI x v L) y ∧ envI (putI x v L) y < N:=by
 intro y
 rw [envI_put hk]
 unfold updE
 split
 ·exact ⟨h0,h1⟩
 ·exact hE y
def x35_T1 : XC:=.seq (.seq (.reg [⟨some 152,.move (.tmp 2),none⟩,⟨some 153,.fieldAddr 29 (.tmp 4) 1,none⟩,⟨some 154,.load 9 (.tmp 153),none⟩,⟨none,.call ⟨.builtin .delete,#[.tmp 152,.tmp 154],#[67,9]⟩,none⟩]) (.seq (.reg [⟨some 155,.move (.tmp 8),none⟩]) (.cond (.tmp 155) (.reg [⟨some 156,.move (.tmp 2),none⟩,⟨some 157,.fieldAddr 29 (.tmp 4) 1,none⟩,⟨some 158,.load 9 (.tmp 157),none⟩,⟨some 159,.move (.tmp 7),none⟩,⟨none,.mapUpdate 67 (.tmp 156) (.tmp 158) (.tmp 159),none⟩]) .skip))) (.seq (.reg [⟨some 160,.move (.tmp 9),none⟩,⟨some 6,.assign (.tmp 160),none⟩]) .ret)
def x35_L1 : XC:=.seq (.reg [⟨some 132,.binOp .lss 3 (.tmp 131) (.tmp 130) 3,none⟩]) (.seq (.cond (.tmp 132) .skip (.exit 1)) (.seq (.block 2 (.seq (.reg [⟨some 133,.move (.tmp 131),none⟩,⟨some 10,.assign (.tmp 133),none⟩]) (.seq (.reg [⟨some 134,.move (.tmp 2),none⟩,⟨some 135,.fieldAddr 29 (.tmp 4) 1,none⟩,⟨some 136,.load 9 (.tmp 135),none⟩,⟨some 137,.move (.tmp 10),none⟩,⟨none,.mapUpdate 67 (.tmp 134) (.tmp 136) (.tmp 137),none⟩]) (.seq (.drawn 24 [⟨some 138,.move (.tmp 0),none⟩,⟨some 139,.fieldAddr 29 (.tmp 4) 3,none⟩,⟨some 140,.load 27 (.tmp 139),none⟩,⟨some 141,.indexAddr 27 (.tmp 140) (.const (.int .i64 0)),none⟩,⟨some 142,.load 29 (.tmp 141),none⟩,⟨some 143,.move (.tmp 2),none⟩,⟨some 144,.call ⟨.value (.func 35),#[.tmp 138,.tmp 142,.tmp 143],#[68,29,67]⟩,none⟩,⟨some 145,.fieldAddr 29 (.tmp 4) 0,none⟩,⟨some 146,.load 3 (.tmp 145),none⟩,⟨some 147,.binOp .eql 3 (.tmp 146) (.const (.int .i64 9)) 3,none⟩,⟨some 148,.binOp .neq 4 (.tmp 144) (.tmp 147) 4,none⟩]) (.cond (.tmp 148) (.seq (.reg [⟨some 149,.move (.tmp 9),none⟩,⟨some 150,.unOp .not 4 (.tmp 149),none⟩,⟨some 9,.assign (.tmp 150),none⟩]) (.exit 1)) .skip))))) (.reg [⟨some 151,.binOp .add 3 (.tmp 131) (.const (.int .i64 1)) 3,none⟩,⟨some 131,.move (.tmp 151),none⟩])))
def x35 : XC:=.seq (.reg [⟨some 4,.box 29 (.tmp 1),none⟩,⟨some 6,.assign (.const (.bool false)),none⟩]) (.seq (.seq (.reg [⟨some 11,.fieldAddr 29 (.tmp 4) 0,none⟩,⟨some 12,.load 3 (.tmp 11),none⟩]) (.block 0 (.seq (.reg [⟨some 14,.binOp .eql 3 (.tmp 12) (.const (.int .i64 1)) 3,none⟩,⟨some 13,.assign (.tmp 14),none⟩]) (.cond (.tmp 13) (.seq (.drawn 3 [⟨some 15,.move (.tmp 0),none⟩,⟨some 16,.nilCheck (.tmp 15),none⟩,⟨some 17,.fieldAddr 95 (.tmp 16) 2,none⟩,⟨some 18,.load 93 (.tmp 17),none⟩,⟨some 19,.fieldAddr 29 (.tmp 4) 1,none⟩,⟨some 20,.load 9 (.tmp 19),none⟩,⟨some 21,.lookup 93 (.tmp 18) (.tmp 20) false,none⟩,⟨some 22,.field 61 (.tmp 21) 2,none⟩,⟨some 23,.move (.tmp 0),none⟩,⟨some 24,.fieldAddr 29 (.tmp 4) 2,none⟩,⟨some 25,.load 26 (.tmp 24),none⟩,⟨some 26,.move (.tmp 2),none⟩,⟨some 27,.call ⟨.value (.func 56),#[.tmp 23,.tmp 25,.tmp 26],#[68,26,67]⟩,none⟩,⟨some 28,.indexAddr 59 (.tmp 22) (.tmp 27),none⟩,⟨some 29,.load 4 (.tmp 28),none⟩,⟨some 6,.assign (.tmp 29),none⟩]) .ret) (.seq (.reg [⟨some 31,.binOp .eql 3 (.tmp 12) (.const (.int .i64 2)) 3,none⟩,⟨some 30,.assign (.tmp 31),none⟩]) (.cond (.tmp 30) (.seq (.drawn 5 [⟨some 32,.move (.tmp 0),none⟩,⟨some 33,.fieldAddr 29 (.tmp 4) 2,none⟩,⟨some 34,.load 26 (.tmp 33),none⟩,⟨some 35,.indexAddr 26 (.tmp 34) (.const (.int .i64 0)),none⟩,⟨some 36,.load 31 (.tmp 35),none⟩,⟨some 37,.move (.tmp 2),none⟩,⟨some 38,.call ⟨.value (.func 57),#[.tmp 32,.tmp 36,.tmp 37],#[68,31,67]⟩,none⟩,⟨some 39,.move (.tmp 0),none⟩,⟨some 40,.fieldAddr 29 (.tmp 4) 2,none⟩,⟨some 41,.load 26 (.tmp 40),none⟩,⟨some 42,.indexAddr 26 (.tmp 41) (.const (.int .i64 1)),none⟩,⟨some 43,.load 31 (.tmp 42),none⟩,⟨some 44,.move (.tmp 2),none⟩,⟨some 45,.call ⟨.value (.func 57),#[.tmp 39,.tmp 43,.tmp 44],#[68,31,67]⟩,none⟩,⟨some 46,.binOp .eql 3 (.tmp 38) (.tmp 45) 3,none⟩,⟨some 6,.assign (.tmp 46),none⟩]) .ret) (.seq (.reg [⟨some 48,.binOp .eql 3 (.tmp 12) (.const (.int .i64 3)) 3,none⟩,⟨some 47,.assign (.tmp 48),none⟩]) (.cond (.tmp 47) (.seq (.reg [⟨some 6,.assign (.const (.bool true)),none⟩]) .ret) (.seq (.reg [⟨some 50,.binOp .eql 3 (.tmp 12) (.const (.int .i64 5)) 3,none⟩,⟨some 49,.assign (.tmp 50),none⟩]) (.cond (.tmp 49) (.seq (.reg [⟨some 51,.move (.tmp 0),none⟩,⟨some 52,.fieldAddr 29 (.tmp 4) 3,none⟩,⟨some 53,.load 27 (.tmp 52),none⟩,⟨some 54,.indexAddr 27 (.tmp 53) (.const (.int .i64 0)),none⟩,⟨some 55,.load 29 (.tmp 54),none⟩,⟨some 56,.move (.tmp 2),none⟩,⟨some 57,.call ⟨.value (.func 35),#[.tmp 51,.tmp 55,.tmp 56],#[68,29,67]⟩,none⟩,⟨some 58,.unOp .not 4 (.tmp 57),none⟩,⟨some 6,.assign (.tmp 58),none⟩]) .ret) (.seq (.reg [⟨some 60,.binOp .eql 3 (.tmp 12) (.const (.int .i64 6)) 3,none⟩,⟨some 59,.assign (.tmp 60),none⟩]) (.cond (.tmp 59) (.seq (.reg [⟨some 61,.move (.tmp 0),none⟩,⟨some 62,.fieldAddr 29 (.tmp 4) 3,none⟩,⟨some 63,.load 27 (.tmp 62),none⟩,⟨some 64,.indexAddr 27 (.tmp 63) (.const (.int .i64 0)),none⟩,⟨some 65,.load 29 (.tmp 64),none⟩,⟨some 66,.move (.tmp 2),none⟩,⟨some 67,.call ⟨.value (.func 35),#[.tmp 61,.tmp 65,.tmp 66],#[68,29,67]⟩,none⟩,⟨some 68,.move (.tmp 67),none⟩,⟨some 69,.move (.tmp 0),some (some 68,true)⟩,⟨some 70,.fieldAddr 29 (.tmp 4) 3,some (some 68,true)⟩,⟨some 71,.load 27 (.tmp 70),some (some 68,true)⟩,⟨some 72,.indexAddr 27 (.tmp 71) (.const (.int .i64 1)),some (some 68,true)⟩,⟨some 73,.load 29 (.tmp 72),some (some 68,true)⟩,⟨some 74,.move (.tmp 2),some (some 68,true)⟩,⟨some 75,.call ⟨.value (.func 35),#[.tmp 69,.tmp 73,.tmp 74],#[68,29,67]⟩,some (some 68,true)⟩,⟨some 76,.pick (.tmp 68) (.tmp 75) (.const (.bool false)),none⟩,⟨some 6,.assign (.tmp 76),none⟩]) .ret) (.seq (.reg [⟨some 78,.binOp .eql 3 (.tmp 12) (.const (.int .i64 7)) 3,none⟩,⟨some 77,.assign (.tmp 78),none⟩]) (.cond (.tmp 77) (.seq (.reg [⟨some 79,.move (.tmp 0),none⟩,⟨some 80,.fieldAddr 29 (.tmp 4) 3,none⟩,⟨some 81,.load 27 (.tmp 80),none⟩,⟨some 82,.indexAddr 27 (.tmp 81) (.const (.int .i64 0)),none⟩,⟨some 83,.load 29 (.tmp 82),none⟩,⟨some 84,.move (.tmp 2),none⟩,⟨some 85,.call ⟨.value (.func 35),#[.tmp 79,.tmp 83,.tmp 84],#[68,29,67]⟩,none⟩,⟨some 86,.move (.tmp 85),none⟩,⟨some 87,.move (.tmp 0),some (some 86,false)⟩,⟨some 88,.fieldAddr 29 (.tmp 4) 3,some (some 86,false)⟩,⟨some 89,.load 27 (.tmp 88),some (some 86,false)⟩,⟨some 90,.indexAddr 27 (.tmp 89) (.const (.int .i64 1)),some (some 86,false)⟩,⟨some 91,.load 29 (.tmp 90),some (some 86,false)⟩,⟨some 92,.move (.tmp 2),some (some 86,false)⟩,⟨some 93,.call ⟨.value (.func 35),#[.tmp 87,.tmp 91,.tmp 92],#[68,29,67]⟩,some (some 86,false)⟩,⟨some 94,.pick (.tmp 86) (.const (.bool true)) (.tmp 93),none⟩,⟨some 6,.assign (.tmp 94),none⟩]) .ret) (.seq (.reg [⟨some 96,.binOp .eql 3 (.tmp 12) (.const (.int .i64 8)) 3,none⟩,⟨some 95,.assign (.tmp 96),none⟩]) (.cond (.tmp 95) (.seq (.reg [⟨some 97,.move (.tmp 0),none⟩,⟨some 98,.fieldAddr 29 (.tmp 4) 3,none⟩,⟨some 99,.load 27 (.tmp 98),none⟩,⟨some 100,.indexAddr 27 (.tmp 99) (.const (.int .i64 0)),none⟩,⟨some 101,.load 29 (.tmp 100),none⟩,⟨some 102,.move (.tmp 2),none⟩,⟨some 103,.call ⟨.value (.func 35),#[.tmp 97,.tmp 101,.tmp 102],#[68,29,67]⟩,none⟩,⟨some 104,.unOp .not 4 (.tmp 103),none⟩,⟨some 105,.move (.tmp 104),none⟩,⟨some 106,.move (.tmp 0),some (some 105,false)⟩,⟨some 107,.fieldAddr 29 (.tmp 4) 3,some (some 105,false)⟩,⟨some 108,.load 27 (.tmp 107),some (some 105,false)⟩,⟨some 109,.indexAddr 27 (.tmp 108) (.const (.int .i64 1)),some (some 105,false)⟩,⟨some 110,.load 29 (.tmp 109),some (some 105,false)⟩,⟨some 111,.move (.tmp 2),some (some 105,false)⟩,⟨some 112,.call ⟨.value (.func 35),#[.tmp 106,.tmp 110,.tmp 111],#[68,29,67]⟩,some (some 105,false)⟩,⟨some 113,.pick (.tmp 105) (.const (.bool true)) (.tmp 112),none⟩,⟨some 6,.assign (.tmp 113),none⟩]) .ret) (.seq (.seq (.reg [⟨some 115,.binOp .eql 3 (.tmp 12) (.const (.int .i64 9)) 3,none⟩,⟨some 114,.assign (.tmp 115),none⟩]) (.cond (.tmp 114) .skip (.reg [⟨some 116,.binOp .eql 3 (.tmp 12) (.const (.int .i64 10)) 3,none⟩,⟨some 114,.assign (.tmp 116),none⟩]))) (.cond (.tmp 114) (.seq (.reg [⟨some 118,.move (.tmp 2),none⟩,⟨some 119,.fieldAddr 29 (.tmp 4) 1,none⟩,⟨some 120,.load 9 (.tmp 119),none⟩,⟨some 121,.lookup 67 (.tmp 118) (.tmp 120) true,none⟩,⟨some 117,.move (.tmp 121),none⟩,⟨some 122,.extract (.tmp 117) 0,none⟩,⟨some 123,.extract (.tmp 117) 1,none⟩,⟨some 7,.assign (.tmp 122),none⟩,⟨some 8,.assign (.tmp 123),none⟩]) (.seq (.reg [⟨some 124,.fieldAddr 29 (.tmp 4) 0,none⟩,⟨some 125,.load 3 (.tmp 124),none⟩,⟨some 126,.binOp .eql 3 (.tmp 125) (.const (.int .i64 9)) 3,none⟩,⟨some 9,.assign (.tmp 126),none⟩]) (.seq (.seq (.reg [⟨some 127,.move (.tmp 0),none⟩,⟨some 128,.nilCheck (.tmp 127),none⟩,⟨some 129,.fieldAddr 95 (.tmp 128) 0,none⟩,⟨some 130,.load 3 (.tmp 129),none⟩,⟨some 131,.move (.const (.int .i64 0)),none⟩]) (.bloop 1 x35_L1)) (x35_T1)))) .skip)))))))))))))))))) (.seq (.reg [⟨some 6,.assign (.const (.bool false)),none⟩]) .ret))
@[simp] theorem x35_s {C e s K} : type_of% (@X_at C e s K _ _ x35_T1.eq_1) ∧ type_of% (@X_at C e s K _ _ x35_L1.eq_1) ∧ type_of% (@X_at C e s K _ _ x35.eq_1):=⟨X_at x35_T1.eq_1,X_at x35_L1.eq_1,X_at x35.eq_1⟩
def an35 : Ann:=⟨[(3,.mix 13),(5,.mix 13),(24,.tree (.op 0 (.op 1 (.op 2 (.op 3 (.op 4 (.op 5 (.op 7 (.op 8 (.op 9 (.op 6 (.ck 8 (.ck 9 (.op 10 .fin))))))))))))))],[(1,[],[0,2,4,7,8,9,130,131],[2,4,7,8,9])],[]⟩
@[simp] theorem an35_a : an35.clsOf 3 = .mix 13 ∧ an35.clsOf 5 = .mix 13 ∧ an35.clsOf 24 = .tree (.op 0 (.op 1 (.op 2 (.op 3 (.op 4 (.op 5 (.op 7 (.op 8 (.op 9 (.op 6 (.ck 8 (.ck 9 (.op 10 .fin))))))))))))) ∧ an35.frzOf 3 = [] ∧ an35.frzOf 5 = [] ∧ an35.frzOf 24 = [] ∧ an35.loopOf 1 = ([],[0,2,4,7,8,9,130,131],[2,4,7,8,9]):=⟨rfl,rfl,rfl,rfl,rfl,rfl,rfl⟩
theorem fi35 : FI Try.prog 35 (cxA an35) x35 [.tmp 6] Try.f35:=fiA Try.func35 mixed
theorem value_world (N : Int) (h0 : 0 < N) (h8 : N ≤ 8) (F : List Fn) (hF : FunsOk N F) (P : List Pd) (hP : PredsOk N P) (e : Ex) (hok : exOk F P e = true) : ∀ L : Ev,Keys L → (∀ x,0 ≤ envI L x ∧ envI L x < N) → CallOK Try.prog 35 [worldOf N F P,.agg (exr e),.mapv 0] (stE L) (.bool (valS N F P e L).1) (stE (valS N F P e L).2):=by
 induction e using Ex.ind with
 | h e ih=>
  intro L hk hE
  have he:=exr_eq e
  rw [exOk_eq,Bool.and_eq_true] at hok
  obtain ⟨hh,hks⟩:=hok
  unfold exH at hh
  rw [Bool.and_eq_true,Bool.and_eq_true] at hh
  obtain ⟨⟨hws,hsh⟩,hpr⟩:=hh
  obtain ⟨hk1,hk10,hkc,hw2⟩:=of_decide_eq_true hsh
  rw [valS_eq]
  unfold valHS worldOf at *
  by_cases k1 : e.k = 1
  ·rw [if_pos k1]
   rw [decide_eq_true k1,Bool.not_true,Bool.false_or] at hpr
   cases hp : predAt e.nm P with
   | none=>rw [hp] at hpr;exact absurd hpr (by simp)
   | some p=>
    rw [hp] at hpr
    have har : p.ar = (e.words.length : Int):=by simpa using hpr
    obtain ⟨p1,p2,p3⟩:=bitF_zero (hP p (predAt_mem hp))
    have hra : ∀ a ∈ e.words,0 ≤ wordV N F (envI L) a ∧ wordV N F (envI L) a < N:=fun a ha=>word_range h0 hF hE a (wordsOkF_mem hws a ha)
    have hpr:=place_range (E:=envI L) h0 hra
    have hpl:=place_world N h0 h8 F P L e.words (by omega) hra fun a ha=>word_world N h0 h8 F hF P L hE a (wordsOkF_mem hws a ha)
    rw [har,Int.toNat_natCast] at p3
    rw [Option.getD_some]
    obtain ⟨q,hq⟩ : ∃ q : Nat,placeV N F (envI L) e.words = (q : Int):=⟨(placeV N F (envI L) e.words).toNat,by omega⟩
    rw [hq] at hpl hpr ⊢
    have hl : q < p.bits.length:=by omega
    rw [Int.toNat_natCast,List.getD_eq_getElem?_getD,List.getElem?_eq_getElem hl,Option.getD_some]
    obtain ⟨j,f3,f4⟩:=(find_predM e.nm P 0).2 p hp
    generalize hy : p.bits[q] = y
    unfold worldOf at hpl
    refine fi35.og ?_
    (refine Sg.h ?_;try repeat' ((with_reducible first|refine brA ?_|refine brE fun _=>?_|refine spl ⟨?_,?_⟩<;>intro _)<;>((try simp -implicitDefEqProofs(disch:=first|assumption|(try simp only[lens]);omega -splitDisjunctions) [k1,f3]))))
    refine CM.see hpl (fun t=>by simp) (flat_int _ _) ?_
    (refine Sg.h ?_;try repeat' ((with_reducible first|refine brA ?_|refine brE fun _=>?_|refine spl ⟨?_,?_⟩<;>intro _)<;>((try simp -implicitDefEqProofs(disch:=first|assumption|(try simp only[lens]);omega -splitDisjunctions) [hl,hy]))))
  rw [if_neg k1]
  by_cases k2 : e.k = 2
  ·rw [if_pos k2]
   have hw2:=hw2 k2
   obtain ⟨a,b,hab⟩ : ∃ a b,e.words = [a,b]:=by
    match h : e.words,hw2 with
    | [a,b],_=>exact ⟨a,b,rfl⟩
   have hwa:=word_world N h0 h8 F hF P L hE a (wordsOkF_mem hws a (by simp [hab]))
   have hwb:=word_world N h0 h8 F hF P L hE b (wordsOkF_mem hws b (by simp [hab]))
   rw [hab] at he ⊢
   simp only [List.getD_cons_zero,List.getD_cons_succ]
   generalize wordV N F (envI L) a = va at *
   generalize wordV N F (envI L) b = vb at *
   unfold worldOf at hwa hwb
   refine fi35.og ?_
   (refine Sg.h ?_;try repeat' ((with_reducible first|refine brA ?_|refine brE fun _=>?_|refine spl ⟨?_,?_⟩<;>intro _)<;>((try simp -implicitDefEqProofs(disch:=first|assumption|(try simp only[lens]);omega -splitDisjunctions) [k2,hab]))))
   refine CM.see hwa (fun t=>by simp) (flat_int _ _) ?_
   (refine Sg.h ?_;try repeat' ((with_reducible first|refine brA ?_|refine brE fun _=>?_|refine spl ⟨?_,?_⟩<;>intro _)<;>((try simp -implicitDefEqProofs(disch:=first|assumption|(try simp only[lens]);omega -splitDisjunctions) [hab]))))
   refine CD.see hwb (by simp) (flat_int _ _) ?_
   (refine Sg.h ?_;try repeat' ((with_reducible first|refine brA ?_|refine brE fun _=>?_|refine spl ⟨?_,?_⟩<;>intro _)<;>((try simp -implicitDefEqProofs(disch:=first|assumption|(try simp only[lens]);omega -splitDisjunctions)))))
  rw [if_neg k2]
  by_cases k3 : e.k = 3
  ·rw [if_pos k3]
   refine fi35.og ?_
   (refine Sg.h ?_;try repeat' ((with_reducible first|refine brA ?_|refine brE fun _=>?_|refine spl ⟨?_,?_⟩<;>intro _)<;>((try simp -implicitDefEqProofs(disch:=first|assumption|(try simp only[lens]);omega -splitDisjunctions) [k3]))))
  rw [if_neg k3]
  by_cases k4 : e.k = 4
  ·rw [if_neg (by omega),if_neg (by omega),if_neg (by omega),if_neg (by omega),if_neg (by omega)]
   refine fi35.og ?_
   (refine Sg.h ?_;try repeat' ((with_reducible first|refine brA ?_|refine brE fun _=>?_|refine spl ⟨?_,?_⟩<;>intro _)<;>((try simp -implicitDefEqProofs(disch:=first|assumption|(try simp only[lens]);omega -splitDisjunctions) [k4]))))
  -- the kids
  have kid : ∀ i (hi : i < e.kids.length) (L : Ev),Keys L → (∀ x,0 ≤ envI L x ∧ envI L x < N) → CallOK Try.prog 35 [.iptr [.int .i64 N,.imap (funM F),.imap (predM P)],.agg (exr e.kids[i]),.mapv 0] (stE L) (.bool (((e.kids.map (valS N F P)).getD i fun L=>(false,L)) L).1) (stE (((e.kids.map (valS N F P)).getD i fun L=>(false,L)) L).2):=by
   intro i hi L hk hE
   have:=ih e.kids[i] (List.getElem_mem hi) (exsOk_mem hks _ (List.getElem_mem hi)) L hk hE
   rw [List.getD_eq_getElem?_getD,List.getElem?_map,List.getElem?_eq_getElem hi]
   exact this
  have spec : ∀ i,Tells ((e.kids.map (valS N F P)).getD i fun L=>(false,L)) ((e.kids.map (valV N F P)).getD i fun _=>false):=by
   intro i
   by_cases hi : i < e.kids.length
   ·have := valS_spec N F P e.kids[i]
    rw [List.getD_eq_getElem?_getD,List.getD_eq_getElem?_getD,List.getElem?_map,List.getElem?_map,List.getElem?_eq_getElem hi]
    exact this
   ·rw [List.getD_eq_getElem?_getD,List.getD_eq_getElem?_getD,List.getElem?_map,List.getElem?_map,List.getElem?_eq_none (by omega)]
    exact fun L hk=>⟨rfl,hk,fun _=>rfl⟩
  have kid0:=kid 0
  have kid1:=kid 1
  have spec0:=spec 0
  have spec1:=spec 1
  clear kid spec ih
  generalize ((e.kids.map (valS N F P)).getD 0 fun L=>(false,L)) = g0 at *
  generalize ((e.kids.map (valS N F P)).getD 1 fun L=>(false,L)) = g1 at *
  by_cases k5 : e.k = 5
  ·rw [if_pos k5]
   have hl : 0 < e.kids.length:=by rw [k5,show kidsX 5 = 1 from rfl] at hkc;omega
   have hc:=kid0 hl L hk hE
   generalize hx : e.kids[0] = x at *
   generalize g0 L = r at *
   refine fi35.og ?_
   (refine Sg.h ?_;try repeat' ((with_reducible first|refine brA ?_|refine brE fun _=>?_|refine spl ⟨?_,?_⟩<;>intro _)<;>((try simp -implicitDefEqProofs(disch:=first|assumption|(try simp only[lens]);omega -splitDisjunctions) [k5,hl,hx]))))
   refine cl_en (rest:=[_]) hc ?_
   (refine Sg.h ?_;try repeat' ((with_reducible first|refine brA ?_|refine brE fun _=>?_|refine spl ⟨?_,?_⟩<;>intro _)<;>((try simp -implicitDefEqProofs(disch:=first|assumption|(try simp only[lens]);omega -splitDisjunctions)))))
  rw [if_neg k5]
  by_cases k6 : e.k = 6
  ·rw [if_pos k6]
   have hl0 : 0 < e.kids.length:=by rw [k6,show kidsX 6 = 2 from rfl] at hkc;omega
   have hl1 : 1 < e.kids.length:=by rw [k6,show kidsX 6 = 2 from rfl] at hkc;omega
   have hc0:=kid0 hl0 L hk hE
   have hc1:=kid1 hl1 (g0 L).2 (spec0 L hk).2.1 (by rw [envI_of (spec0 L hk).2.2];exact hE)
   clear kid0 kid1
   generalize hx : e.kids[0] = x at *
   generalize hx1 : e.kids[1] = x1 at *
   generalize g1 (g0 L).2 = r1 at *
   generalize g0 L = r0 at *
   obtain ⟨b0,L0⟩:=r0
   cases b0 with
   | true=>
    refine fi35.og ?_
    (refine Sg.h ?_;try repeat' ((with_reducible first|refine brA ?_|refine brE fun _=>?_|refine spl ⟨?_,?_⟩<;>intro _)<;>((try simp -implicitDefEqProofs(disch:=first|assumption|(try simp only[lens]);omega -splitDisjunctions) [k6,hl0,hx]))))
    refine cl_en (rest:=[_]) hc0 ?_
    (refine Sg.h ?_;try repeat' ((with_reducible first|refine brA ?_|refine brE fun _=>?_|refine spl ⟨?_,?_⟩<;>intro _)<;>((try simp -implicitDefEqProofs(disch:=first|assumption|(try simp only[lens]);omega -splitDisjunctions) [hl1,hx1]))))
    refine cl_en (rest:=[_]) hc1 ?_
    (refine Sg.h ?_;try repeat' ((with_reducible first|refine brA ?_|refine brE fun _=>?_|refine spl ⟨?_,?_⟩<;>intro _)<;>((try simp -implicitDefEqProofs(disch:=first|assumption|(try simp only[lens]);omega -splitDisjunctions)))))
   | false=>
    refine fi35.og ?_
    (refine Sg.h ?_;try repeat' ((with_reducible first|refine brA ?_|refine brE fun _=>?_|refine spl ⟨?_,?_⟩<;>intro _)<;>((try simp -implicitDefEqProofs(disch:=first|assumption|(try simp only[lens]);omega -splitDisjunctions) [k6,hl0,hx]))))
    refine cl_en (rest:=[_]) hc0 ?_
    (refine Sg.h ?_;try repeat' ((with_reducible first|refine brA ?_|refine brE fun _=>?_|refine spl ⟨?_,?_⟩<;>intro _)<;>((try simp -implicitDefEqProofs(disch:=first|assumption|(try simp only[lens]);omega -splitDisjunctions) [hl1,hx1]))))
  rw [if_neg k6]
  by_cases k7 : e.k = 7
  ·rw [if_pos k7]
   have hl0 : 0 < e.kids.length:=by rw [k7,show kidsX 7 = 2 from rfl] at hkc;omega
   have hl1 : 1 < e.kids.length:=by rw [k7,show kidsX 7 = 2 from rfl] at hkc;omega
   have hc0:=kid0 hl0 L hk hE
   have hc1:=kid1 hl1 (g0 L).2 (spec0 L hk).2.1 (by rw [envI_of (spec0 L hk).2.2];exact hE)
   clear kid0 kid1
   generalize hx : e.kids[0] = x at *
   generalize hx1 : e.kids[1] = x1 at *
   generalize g1 (g0 L).2 = r1 at *
   generalize g0 L = r0 at *
   obtain ⟨b0,L0⟩:=r0
   cases b0 with
   | true=>
    refine fi35.og ?_
    (refine Sg.h ?_;try repeat' ((with_reducible first|refine brA ?_|refine brE fun _=>?_|refine spl ⟨?_,?_⟩<;>intro _)<;>((try simp -implicitDefEqProofs(disch:=first|assumption|(try simp only[lens]);omega -splitDisjunctions) [k7,hl0,hx]))))
    refine cl_en (rest:=[_]) hc0 ?_
    (refine Sg.h ?_;try repeat' ((with_reducible first|refine brA ?_|refine brE fun _=>?_|refine spl ⟨?_,?_⟩<;>intro _)<;>((try simp -implicitDefEqProofs(disch:=first|assumption|(try simp only[lens]);omega -splitDisjunctions) [hl1,hx1]))))
   | false=>
    refine fi35.og ?_
    (refine Sg.h ?_;try repeat' ((with_reducible first|refine brA ?_|refine brE fun _=>?_|refine spl ⟨?_,?_⟩<;>intro _)<;>((try simp -implicitDefEqProofs(disch:=first|assumption|(try simp only[lens]);omega -splitDisjunctions) [k7,hl0,hx]))))
    refine cl_en (rest:=[_]) hc0 ?_
    (refine Sg.h ?_;try repeat' ((with_reducible first|refine brA ?_|refine brE fun _=>?_|refine spl ⟨?_,?_⟩<;>intro _)<;>((try simp -implicitDefEqProofs(disch:=first|assumption|(try simp only[lens]);omega -splitDisjunctions) [hl1,hx1]))))
    refine cl_en (rest:=[_]) hc1 ?_
    (refine Sg.h ?_;try repeat' ((with_reducible first|refine brA ?_|refine brE fun _=>?_|refine spl ⟨?_,?_⟩<;>intro _)<;>((try simp -implicitDefEqProofs(disch:=first|assumption|(try simp only[lens]);omega -splitDisjunctions)))))
  rw [if_neg k7]
  by_cases k8 : e.k = 8
  ·rw [if_pos k8]
   have hl0 : 0 < e.kids.length:=by rw [k8,show kidsX 8 = 2 from rfl] at hkc;omega
   have hl1 : 1 < e.kids.length:=by rw [k8,show kidsX 8 = 2 from rfl] at hkc;omega
   have hc0:=kid0 hl0 L hk hE
   have hc1:=kid1 hl1 (g0 L).2 (spec0 L hk).2.1 (by rw [envI_of (spec0 L hk).2.2];exact hE)
   clear kid0 kid1
   generalize hx : e.kids[0] = x at *
   generalize hx1 : e.kids[1] = x1 at *
   generalize g1 (g0 L).2 = r1 at *
   generalize g0 L = r0 at *
   obtain ⟨b0,L0⟩:=r0
   cases b0 with
   | true=>
    refine fi35.og ?_
    (refine Sg.h ?_;try repeat' ((with_reducible first|refine brA ?_|refine brE fun _=>?_|refine spl ⟨?_,?_⟩<;>intro _)<;>((try simp -implicitDefEqProofs(disch:=first|assumption|(try simp only[lens]);omega -splitDisjunctions) [k8,hl0,hx]))))
    refine cl_en (rest:=[_]) hc0 ?_
    (refine Sg.h ?_;try repeat' ((with_reducible first|refine brA ?_|refine brE fun _=>?_|refine spl ⟨?_,?_⟩<;>intro _)<;>((try simp -implicitDefEqProofs(disch:=first|assumption|(try simp only[lens]);omega -splitDisjunctions) [hl1,hx1]))))
    refine cl_en (rest:=[_]) hc1 ?_
    (refine Sg.h ?_;try repeat' ((with_reducible first|refine brA ?_|refine brE fun _=>?_|refine spl ⟨?_,?_⟩<;>intro _)<;>((try simp -implicitDefEqProofs(disch:=first|assumption|(try simp only[lens]);omega -splitDisjunctions)))))
   | false=>
    refine fi35.og ?_
    (refine Sg.h ?_;try repeat' ((with_reducible first|refine brA ?_|refine brE fun _=>?_|refine spl ⟨?_,?_⟩<;>intro _)<;>((try simp -implicitDefEqProofs(disch:=first|assumption|(try simp only[lens]);omega -splitDisjunctions) [k8,hl0,hx]))))
    refine cl_en (rest:=[_]) hc0 ?_
    (refine Sg.h ?_;try repeat' ((with_reducible first|refine brA ?_|refine brE fun _=>?_|refine spl ⟨?_,?_⟩<;>intro _)<;>((try simp -implicitDefEqProofs(disch:=first|assumption|(try simp only[lens]);omega -splitDisjunctions) [hl1,hx1]))))
  rw [if_neg k8]
  have k910 : e.k = 9 ∨ e.k = 10:=by omega
  rw [if_pos k910]
  have hl0 : 0 < e.kids.length:=by
   rcases k910 with g | g
   ·rw [g,show kidsX 9 = 1 from rfl] at hkc;omega
   ·rw [g,show kidsX 10 = 1 from rfl] at hkc;omega
  have kid0:=kid0 hl0
  clear kid1 spec1 hsh hw2 hpr hws
  generalize hx : e.kids[0] = y at *
  obtain ⟨f1,f2⟩:=findP_int e.nm L 0
  obtain ⟨R,hR⟩ : ∃ R,loopS g0 e.nm (decide (e.k = 9)) N.toNat 0 L = R:=⟨_,rfl⟩
  rw [hR]
  cases hb : lookI e.nm L with
  | none=>
   have f1:=f1 hb
   refine fi35.og ?_
   by_cases k9 : e.k = 9
   ·rw [decide_eq_true k9] at hR
    (refine Sg.h ?_;try repeat' ((with_reducible first|refine brA ?_|refine brE fun _=>?_|refine spl ⟨?_,?_⟩<;>intro _)<;>((try simp -implicitDefEqProofs(disch:=first|assumption|(try simp only[lens]);omega -splitDisjunctions) [k9,f1]))))
    refine W_of fun Q hQ=>?_
    have main : ∀ k x L1,x + k = N.toNat → Keys L1 → (∀ x,0 ≤ envI L1 x ∧ envI L1 x < N) → loopS g0 e.nm true k x L1 = R → Q [(0,.iptr [.int .i64 N,.imap (funM F),.imap (predM P)]),(2,.mapv 0),(4,.ptr 1 0 0),(7,.int .i64 0),(8,.bool false),(9,.bool true),(130,.int .i64 N),(131,.int .i64 (x : Int))] [.map (mapI L1),.rows 4 [exr e]]:=by
     intro k
     induction k with
     | zero=>
      intro x L1 hxk hk1 hE1 hR
      rw [loopS] at hR
      subst hR
      obtain ⟨r,hr⟩:=findP_any e.nm L1
      have hd:=delI_del hk1 hr
      skip
      have hxN : ¬ (x : Int) < N:=by omega
      apply hQ
      clear hQ
      (refine Sg.h ?_;try repeat' ((with_reducible first|refine brA ?_|refine brE fun _=>?_|refine spl ⟨?_,?_⟩<;>intro _)<;>((try simp -implicitDefEqProofs(disch:=first|assumption|(try simp only[lens]);omega -splitDisjunctions) [hxN,k9,hr,hd,backI]))))
     | succ k ihk=>
      intro x L1 hxk hk1 hE1 hR
      have hxN : (x : Int) < N:=by omega
      have hk2:=putI_keys (x:=e.nm) (v:=(x : Int)) hk1
      have hE2:=envI_rng (x:=e.nm) hk1 hE1 (by omega) hxN
      obtain ⟨r,hr⟩:=findP_any e.nm L1
      have hp:=putI_put (v:=(x : Int)) hk1 hr
      have hc:=kid0 (putI e.nm (x : Int) L1) hk2 hE2
      obtain ⟨_,a2,a3⟩:=spec0 (putI e.nm (x : Int) L1) hk2
      have hE3 : ∀ z,0 ≤ envI (g0 (putI e.nm (x : Int) L1)).2 z ∧ envI (g0 (putI e.nm (x : Int) L1)).2 z < N:=by rw [envI_of a3];exact hE2
      have ihk:=ihk (x + 1) (g0 (putI e.nm (x : Int) L1)).2 (by omega) a2 hE3
      rw [loopS] at hR
      generalize g0 (putI e.nm (x : Int) L1) = q at *
      generalize putI e.nm (x : Int) L1 = L2 at *
      obtain ⟨b,L3⟩:=q
      dsimp only at hR ihk a2 hc hE3
      by_cases hba : b = true
      ·rw [if_neg (fun g => g hba)] at hR
       have ihk:=ihk hR
       subst hba
       apply hQ
       clear hQ
       (refine Sg.h ?_;try repeat' ((with_reducible first|refine brA ?_|refine brE fun _=>?_|refine spl ⟨?_,?_⟩<;>intro _)<;>((try simp -implicitDefEqProofs(disch:=first|assumption|(try simp only[lens]);omega -splitDisjunctions) [hxN,k9,hr,hp,hl0,hx]))))
       refine ct_en (rest:=[_]) hc ?_
       (refine Sg.h ?_;try repeat' ((with_reducible first|refine brA ?_|refine brE fun _=>?_|refine spl ⟨?_,?_⟩<;>intro _)<;>((try simp -implicitDefEqProofs(disch:=first|assumption|(try simp only[lens]);omega -splitDisjunctions) [hl0,hx,k9]))))
       all_goals first|exact ihk|(refine at2 ihk ?_ ?_<;>simp;done)|(exfalso;first|omega|(simp_all;done)|(simp_all;omega))
      ·rw [if_pos hba] at hR
       subst hR
       obtain rfl : b = false:=by cases b <;> simp_all
       obtain ⟨r',hr'⟩:=findP_any e.nm L3
       have hd:=delI_del a2 hr'
       skip
       apply hQ
       clear hQ ihk
       (refine Sg.h ?_;try repeat' ((with_reducible first|refine brA ?_|refine brE fun _=>?_|refine spl ⟨?_,?_⟩<;>intro _)<;>((try simp -implicitDefEqProofs(disch:=first|assumption|(try simp only[lens]);omega -splitDisjunctions) [hxN,k9,hr,hp,hl0,hx]))))
       refine ct_en (rest:=[_]) hc ?_
       (refine Sg.h ?_;try repeat' ((with_reducible first|refine brA ?_|refine brE fun _=>?_|refine spl ⟨?_,?_⟩<;>intro _)<;>((try simp -implicitDefEqProofs(disch:=first|assumption|(try simp only[lens]);omega -splitDisjunctions) [hl0,hx,k9,hr',hd,backI]))))
    all_goals first|exact main N.toNat 0 L (Nat.zero_add _) hk hE hR|(refine at2 main N.toNat 0 L (Nat.zero_add _) hk hE hR ?_ ?_<;>simp;done)|(exfalso;first|omega|(simp_all;done)|(simp_all;omega))
   ·have k10 : e.k = 10 := by omega
    rw [decide_eq_false k9] at hR
    (refine Sg.h ?_;try repeat' ((with_reducible first|refine brA ?_|refine brE fun _=>?_|refine spl ⟨?_,?_⟩<;>intro _)<;>((try simp -implicitDefEqProofs(disch:=first|assumption|(try simp only[lens]);omega -splitDisjunctions) [k9,k10,f1]))))
    refine W_of fun Q hQ=>?_
    have main : ∀ k x L1,x + k = N.toNat → Keys L1 → (∀ x,0 ≤ envI L1 x ∧ envI L1 x < N) → loopS g0 e.nm false k x L1 = R → Q [(0,.iptr [.int .i64 N,.imap (funM F),.imap (predM P)]),(2,.mapv 0),(4,.ptr 1 0 0),(7,.int .i64 0),(8,.bool false),(9,.bool false),(130,.int .i64 N),(131,.int .i64 (x : Int))] [.map (mapI L1),.rows 4 [exr e]]:=by
     intro k
     induction k with
     | zero=>
      intro x L1 hxk hk1 hE1 hR
      rw [loopS] at hR
      subst hR
      obtain ⟨r,hr⟩:=findP_any e.nm L1
      have hd:=delI_del hk1 hr
      skip
      have hxN : ¬ (x : Int) < N:=by omega
      apply hQ
      clear hQ
      (refine Sg.h ?_;try repeat' ((with_reducible first|refine brA ?_|refine brE fun _=>?_|refine spl ⟨?_,?_⟩<;>intro _)<;>((try simp -implicitDefEqProofs(disch:=first|assumption|(try simp only[lens]);omega -splitDisjunctions) [hxN,k9,k10,hr,hd,backI]))))
     | succ k ihk=>
      intro x L1 hxk hk1 hE1 hR
      have hxN : (x : Int) < N:=by omega
      have hk2:=putI_keys (x:=e.nm) (v:=(x : Int)) hk1
      have hE2:=envI_rng (x:=e.nm) hk1 hE1 (by omega) hxN
      obtain ⟨r,hr⟩:=findP_any e.nm L1
      have hp:=putI_put (v:=(x : Int)) hk1 hr
      have hc:=kid0 (putI e.nm (x : Int) L1) hk2 hE2
      obtain ⟨_,a2,a3⟩:=spec0 (putI e.nm (x : Int) L1) hk2
      have hE3 : ∀ z,0 ≤ envI (g0 (putI e.nm (x : Int) L1)).2 z ∧ envI (g0 (putI e.nm (x : Int) L1)).2 z < N:=by rw [envI_of a3];exact hE2
      have ihk:=ihk (x + 1) (g0 (putI e.nm (x : Int) L1)).2 (by omega) a2 hE3
      rw [loopS] at hR
      generalize g0 (putI e.nm (x : Int) L1) = q at *
      generalize putI e.nm (x : Int) L1 = L2 at *
      obtain ⟨b,L3⟩:=q
      dsimp only at hR ihk a2 hc hE3
      by_cases hba : b = false
      ·rw [if_neg (fun g => g hba)] at hR
       have ihk:=ihk hR
       subst hba
       apply hQ
       clear hQ
       (refine Sg.h ?_;try repeat' ((with_reducible first|refine brA ?_|refine brE fun _=>?_|refine spl ⟨?_,?_⟩<;>intro _)<;>((try simp -implicitDefEqProofs(disch:=first|assumption|(try simp only[lens]);omega -splitDisjunctions) [hxN,k9,k10,hr,hp,hl0,hx]))))
       refine ct_en (rest:=[_]) hc ?_
       (refine Sg.h ?_;try repeat' ((with_reducible first|refine brA ?_|refine brE fun _=>?_|refine spl ⟨?_,?_⟩<;>intro _)<;>((try simp -implicitDefEqProofs(disch:=first|assumption|(try simp only[lens]);omega -splitDisjunctions) [hl0,hx,k9,k10]))))
       all_goals first|exact ihk|(refine at2 ihk ?_ ?_<;>simp;done)|(exfalso;first|omega|(simp_all;done)|(simp_all;omega))
      ·rw [if_pos hba] at hR
       subst hR
       obtain rfl : b = true:=by cases b <;> simp_all
       obtain ⟨r',hr'⟩:=findP_any e.nm L3
       have hd:=delI_del a2 hr'
       skip
       apply hQ
       clear hQ ihk
       (refine Sg.h ?_;try repeat' ((with_reducible first|refine brA ?_|refine brE fun _=>?_|refine spl ⟨?_,?_⟩<;>intro _)<;>((try simp -implicitDefEqProofs(disch:=first|assumption|(try simp only[lens]);omega -splitDisjunctions) [hxN,k9,k10,hr,hp,hl0,hx]))))
       refine ct_en (rest:=[_]) hc ?_
       (refine Sg.h ?_;try repeat' ((with_reducible first|refine brA ?_|refine brE fun _=>?_|refine spl ⟨?_,?_⟩<;>intro _)<;>((try simp -implicitDefEqProofs(disch:=first|assumption|(try simp only[lens]);omega -splitDisjunctions) [hl0,hx,k9,k10,hr',hd,backI]))))
    all_goals first|exact main N.toNat 0 L (Nat.zero_add _) hk hE hR|(refine at2 main N.toNat 0 L (Nat.zero_add _) hk hE hR ?_ ?_<;>simp;done)|(exfalso;first|omega|(simp_all;done)|(simp_all;omega))
  | some m=>
   obtain ⟨j,f3,f4⟩:=f2 m hb
   refine fi35.og ?_
   by_cases k9 : e.k = 9
   ·rw [decide_eq_true k9] at hR
    (refine Sg.h ?_;try repeat' ((with_reducible first|refine brA ?_|refine brE fun _=>?_|refine spl ⟨?_,?_⟩<;>intro _)<;>((try simp -implicitDefEqProofs(disch:=first|assumption|(try simp only[lens]);omega -splitDisjunctions) [k9,f3]))))
    refine W_of fun Q hQ=>?_
    have main : ∀ k x L1,x + k = N.toNat → Keys L1 → (∀ x,0 ≤ envI L1 x ∧ envI L1 x < N) → loopS g0 e.nm true k x L1 = R → Q [(0,.iptr [.int .i64 N,.imap (funM F),.imap (predM P)]),(2,.mapv 0),(4,.ptr 1 0 0),(7,.int .i64 m),(8,.bool true),(9,.bool true),(130,.int .i64 N),(131,.int .i64 (x : Int))] [.map (mapI L1),.rows 4 [exr e]]:=by
     intro k
     induction k with
     | zero=>
      intro x L1 hxk hk1 hE1 hR
      rw [loopS] at hR
      subst hR
      obtain ⟨r,hr⟩:=findP_any e.nm L1
      have hd:=delI_del hk1 hr
      obtain ⟨r2,hr2⟩:=findP_any e.nm (delI e.nm L1)
      have hp2:=putI_put (v:=m) (delI_keys hk1) hr2
      have hxN : ¬ (x : Int) < N:=by omega
      apply hQ
      clear hQ
      (refine Sg.h ?_;try repeat' ((with_reducible first|refine brA ?_|refine brE fun _=>?_|refine spl ⟨?_,?_⟩<;>intro _)<;>((try simp -implicitDefEqProofs(disch:=first|assumption|(try simp only[lens]);omega -splitDisjunctions) [hxN,k9,hr,hd,backI,hr2,hp2]))))
     | succ k ihk=>
      intro x L1 hxk hk1 hE1 hR
      have hxN : (x : Int) < N:=by omega
      have hk2:=putI_keys (x:=e.nm) (v:=(x : Int)) hk1
      have hE2:=envI_rng (x:=e.nm) hk1 hE1 (by omega) hxN
      obtain ⟨r,hr⟩:=findP_any e.nm L1
      have hp:=putI_put (v:=(x : Int)) hk1 hr
      have hc:=kid0 (putI e.nm (x : Int) L1) hk2 hE2
      obtain ⟨_,a2,a3⟩:=spec0 (putI e.nm (x : Int) L1) hk2
      have hE3 : ∀ z,0 ≤ envI (g0 (putI e.nm (x : Int) L1)).2 z ∧ envI (g0 (putI e.nm (x : Int) L1)).2 z < N:=by rw [envI_of a3];exact hE2
      have ihk:=ihk (x + 1) (g0 (putI e.nm (x : Int) L1)).2 (by omega) a2 hE3
      rw [loopS] at hR
      generalize g0 (putI e.nm (x : Int) L1) = q at *
      generalize putI e.nm (x : Int) L1 = L2 at *
      obtain ⟨b,L3⟩:=q
      dsimp only at hR ihk a2 hc hE3
      by_cases hba : b = true
      ·rw [if_neg (fun g => g hba)] at hR
       have ihk:=ihk hR
       subst hba
       apply hQ
       clear hQ
       (refine Sg.h ?_;try repeat' ((with_reducible first|refine brA ?_|refine brE fun _=>?_|refine spl ⟨?_,?_⟩<;>intro _)<;>((try simp -implicitDefEqProofs(disch:=first|assumption|(try simp only[lens]);omega -splitDisjunctions) [hxN,k9,hr,hp,hl0,hx]))))
       refine ct_en (rest:=[_]) hc ?_
       (refine Sg.h ?_;try repeat' ((with_reducible first|refine brA ?_|refine brE fun _=>?_|refine spl ⟨?_,?_⟩<;>intro _)<;>((try simp -implicitDefEqProofs(disch:=first|assumption|(try simp only[lens]);omega -splitDisjunctions) [hl0,hx,k9]))))
       all_goals first|exact ihk|(refine at2 ihk ?_ ?_<;>simp;done)|(exfalso;first|omega|(simp_all;done)|(simp_all;omega))
      ·rw [if_pos hba] at hR
       subst hR
       obtain rfl : b = false:=by cases b <;> simp_all
       obtain ⟨r',hr'⟩:=findP_any e.nm L3
       have hd:=delI_del a2 hr'
       obtain ⟨r2,hr2⟩:=findP_any e.nm (delI e.nm L3)
       have hp2:=putI_put (v:=m) (delI_keys a2) hr2
       apply hQ
       clear hQ ihk
       (refine Sg.h ?_;try repeat' ((with_reducible first|refine brA ?_|refine brE fun _=>?_|refine spl ⟨?_,?_⟩<;>intro _)<;>((try simp -implicitDefEqProofs(disch:=first|assumption|(try simp only[lens]);omega -splitDisjunctions) [hxN,k9,hr,hp,hl0,hx]))))
       refine ct_en (rest:=[_]) hc ?_
       (refine Sg.h ?_;try repeat' ((with_reducible first|refine brA ?_|refine brE fun _=>?_|refine spl ⟨?_,?_⟩<;>intro _)<;>((try simp -implicitDefEqProofs(disch:=first|assumption|(try simp only[lens]);omega -splitDisjunctions) [hl0,hx,k9,hr',hd,backI,hr2,hp2]))))
    all_goals first|exact main N.toNat 0 L (Nat.zero_add _) hk hE hR|(refine at2 main N.toNat 0 L (Nat.zero_add _) hk hE hR ?_ ?_<;>simp;done)|(exfalso;first|omega|(simp_all;done)|(simp_all;omega))
   ·have k10 : e.k = 10 := by omega
    rw [decide_eq_false k9] at hR
    (refine Sg.h ?_;try repeat' ((with_reducible first|refine brA ?_|refine brE fun _=>?_|refine spl ⟨?_,?_⟩<;>intro _)<;>((try simp -implicitDefEqProofs(disch:=first|assumption|(try simp only[lens]);omega -splitDisjunctions) [k9,k10,f3]))))
    refine W_of fun Q hQ=>?_
    have main : ∀ k x L1,x + k = N.toNat → Keys L1 → (∀ x,0 ≤ envI L1 x ∧ envI L1 x < N) → loopS g0 e.nm false k x L1 = R → Q [(0,.iptr [.int .i64 N,.imap (funM F),.imap (predM P)]),(2,.mapv 0),(4,.ptr 1 0 0),(7,.int .i64 m),(8,.bool true),(9,.bool false),(130,.int .i64 N),(131,.int .i64 (x : Int))] [.map (mapI L1),.rows 4 [exr e]]:=by
     intro k
     induction k with
     | zero=>
      intro x L1 hxk hk1 hE1 hR
      rw [loopS] at hR
      subst hR
      obtain ⟨r,hr⟩:=findP_any e.nm L1
      have hd:=delI_del hk1 hr
      obtain ⟨r2,hr2⟩:=findP_any e.nm (delI e.nm L1)
      have hp2:=putI_put (v:=m) (delI_keys hk1) hr2
      have hxN : ¬ (x : Int) < N:=by omega
      apply hQ
      clear hQ
      (refine Sg.h ?_;try repeat' ((with_reducible first|refine brA ?_|refine brE fun _=>?_|refine spl ⟨?_,?_⟩<;>intro _)<;>((try simp -implicitDefEqProofs(disch:=first|assumption|(try simp only[lens]);omega -splitDisjunctions) [hxN,k9,k10,hr,hd,backI,hr2,hp2]))))
     | succ k ihk=>
      intro x L1 hxk hk1 hE1 hR
      have hxN : (x : Int) < N:=by omega
      have hk2:=putI_keys (x:=e.nm) (v:=(x : Int)) hk1
      have hE2:=envI_rng (x:=e.nm) hk1 hE1 (by omega) hxN
      obtain ⟨r,hr⟩:=findP_any e.nm L1
      have hp:=putI_put (v:=(x : Int)) hk1 hr
      have hc:=kid0 (putI e.nm (x : Int) L1) hk2 hE2
      obtain ⟨_,a2,a3⟩:=spec0 (putI e.nm (x : Int) L1) hk2
      have hE3 : ∀ z,0 ≤ envI (g0 (putI e.nm (x : Int) L1)).2 z ∧ envI (g0 (putI e.nm (x : Int) L1)).2 z < N:=by rw [envI_of a3];exact hE2
      have ihk:=ihk (x + 1) (g0 (putI e.nm (x : Int) L1)).2 (by omega) a2 hE3
      rw [loopS] at hR
      generalize g0 (putI e.nm (x : Int) L1) = q at *
      generalize putI e.nm (x : Int) L1 = L2 at *
      obtain ⟨b,L3⟩:=q
      dsimp only at hR ihk a2 hc hE3
      by_cases hba : b = false
      ·rw [if_neg (fun g => g hba)] at hR
       have ihk:=ihk hR
       subst hba
       apply hQ
       clear hQ
       (refine Sg.h ?_;try repeat' ((with_reducible first|refine brA ?_|refine brE fun _=>?_|refine spl ⟨?_,?_⟩<;>intro _)<;>((try simp -implicitDefEqProofs(disch:=first|assumption|(try simp only[lens]);omega -splitDisjunctions) [hxN,k9,k10,hr,hp,hl0,hx]))))
       refine ct_en (rest:=[_]) hc ?_
       (refine Sg.h ?_;try repeat' ((with_reducible first|refine brA ?_|refine brE fun _=>?_|refine spl ⟨?_,?_⟩<;>intro _)<;>((try simp -implicitDefEqProofs(disch:=first|assumption|(try simp only[lens]);omega -splitDisjunctions) [hl0,hx,k9,k10]))))
       all_goals first|exact ihk|(refine at2 ihk ?_ ?_<;>simp;done)|(exfalso;first|omega|(simp_all;done)|(simp_all;omega))
      ·rw [if_pos hba] at hR
       subst hR
       obtain rfl : b = true:=by cases b <;> simp_all
       obtain ⟨r',hr'⟩:=findP_any e.nm L3
       have hd:=delI_del a2 hr'
       obtain ⟨r2,hr2⟩:=findP_any e.nm (delI e.nm L3)
       have hp2:=putI_put (v:=m) (delI_keys a2) hr2
       apply hQ
       clear hQ ihk
       (refine Sg.h ?_;try repeat' ((with_reducible first|refine brA ?_|refine brE fun _=>?_|refine spl ⟨?_,?_⟩<;>intro _)<;>((try simp -implicitDefEqProofs(disch:=first|assumption|(try simp only[lens]);omega -splitDisjunctions) [hxN,k9,k10,hr,hp,hl0,hx]))))
       refine ct_en (rest:=[_]) hc ?_
       (refine Sg.h ?_;try repeat' ((with_reducible first|refine brA ?_|refine brE fun _=>?_|refine spl ⟨?_,?_⟩<;>intro _)<;>((try simp -implicitDefEqProofs(disch:=first|assumption|(try simp only[lens]);omega -splitDisjunctions) [hl0,hx,k9,k10,hr',hd,backI,hr2,hp2]))))
    all_goals first|exact main N.toNat 0 L (Nat.zero_add _) hk hE hR|(refine at2 main N.toNat 0 L (Nat.zero_add _) hk hE hR ?_ ?_<;>simp;done)|(exfalso;first|omega|(simp_all;done)|(simp_all;omega))
end Go.Proofs.Ytbimioonhfhflaa
