import Derived.Test.YtbimioonhfhflaaAFbN
import Derived.Test.YtbimioonhfhflaaAFbF
import Derived.Test.YtbimioonhfhflaaAFbA
set_option linter.unusedVariables false
set_option linter.unusedSimpArgs false
set_option maxRecDepth 100000
set_option maxHeartbeats 4000000
namespace Go.Proofs.Ytbimioonhfhflaa
open Go Go.Pv
def cwF (w : Wd) : Int × Int:=match wordW w (0,[]) with
 | .ok _=>(0,0)
 | .error (er,_)=>(er.1,(er.2 : Int))
def x26 : XC:=.seq (.reg [⟨some 1,.box 31 (.tmp 0),none⟩,⟨some 2,.alloc 39,none⟩]) (.seq (.reg [⟨none,.defer ⟨.value (.func 40),#[.tmp 2],#[77]⟩,none⟩]) (.seq (.reg [⟨some 4,.makeMap 67 none,none⟩,⟨some 5,.build 80 #[(1,.tmp 4)],none⟩,⟨some 6,.box 80 (.tmp 5),none⟩,⟨some 3,.assign (.tmp 6),none⟩]) (.seq (.reg [⟨some 7,.move (.tmp 3),none⟩,⟨some 8,.load 31 (.tmp 1),none⟩,⟨some 9,.call ⟨.value (.func 42),#[.tmp 7,.tmp 8],#[78,31]⟩,none⟩]) (.seq (.reg [⟨some 10,.load 39 (.tmp 2),none⟩,⟨none,.store 39 (.tmp 2) (.tmp 10),none⟩]) .ret))))
@[simp] theorem x26_s {C e s K} : type_of% (@X_at C e s K _ _ x26.eq_1):=X_at x26.eq_1
def an26 : Ann:=⟨[],[],[]⟩
theorem fdn_checkw : FDN Try.prog 26 (cxA an26) (preX 1 x26) 2 40 (dropX 2 x26) [.cell 2 39] Try.f26:=fdnA Try.func26 mixed (by decide +kernel) (by kernel_rfl) (by kernel_rfl)
theorem CheckWord_first (w : Wd) : CallOK Try.prog 26 [.agg (wrd w)] [] (.agg [.int .i64 (cwF w).1,.int .i64 (cwF w).2]) []:=by
 have hc:=word_walker w (0,[]) (by simp)
 refine FDN.os fdn_checkw ?_
 simp only [x26,preX,dropX]
 unfold cwF
 cases hw : wordW w (0,[]) with
 | error er=>
  obtain ⟨er,s'⟩:=er
  rw [hw] at hc
  simp only [ToldW] at hc
  (refine Sg.h ?_;try repeat' ((with_reducible first|refine brA ?_|refine brE fun _=>?_|refine spl ⟨?_,?_⟩<;>intro _)<;>((try simp -implicitDefEqProofs);(try simp -implicitDefEqProofs(disch:=first|assumption|(try simp only[lens]);omega -splitDisjunctions)))))
  refine CL.psub [3,2] (s2:=wk s') (v:=stopE er.1 er.2) (by simpa [liveS,mapI] using hc) ?_
  (refine Sg.h ?_;try repeat' ((with_reducible first|refine brA ?_|refine brE fun _=>?_|refine spl ⟨?_,?_⟩<;>intro _)<;>((try simp -implicitDefEqProofs);(try simp -implicitDefEqProofs(disch:=first|assumption|(try simp only[lens]);omega -splitDisjunctions)))))
  refine DRecN.sub [1] (caught_stop er.1 er.2 0 0) ?_
  (refine Sg.h ?_;try repeat' ((with_reducible first|refine brA ?_|refine brE fun _=>?_|refine spl ⟨?_,?_⟩<;>intro _)<;>((try simp -implicitDefEqProofs);(try simp -implicitDefEqProofs(disch:=first|assumption|(try simp only[lens]);omega -splitDisjunctions)))))
 | ok s'=>
  rw [hw] at hc
  simp only [ToldW] at hc
  (refine Sg.h ?_;try repeat' ((with_reducible first|refine brA ?_|refine brE fun _=>?_|refine spl ⟨?_,?_⟩<;>intro _)<;>((try simp -implicitDefEqProofs);(try simp -implicitDefEqProofs(disch:=first|assumption|(try simp only[lens]);omega -splitDisjunctions)))))
  refine CL.sub [3,2] (s2:=wk s') (v:=.tuple []) (by simpa [liveS,mapI] using hc) ?_
  (refine Sg.h ?_;try repeat' ((with_reducible first|refine brA ?_|refine brE fun _=>?_|refine spl ⟨?_,?_⟩<;>intro _)<;>((try simp -implicitDefEqProofs);(try simp -implicitDefEqProofs(disch:=first|assumption|(try simp only[lens]);omega -splitDisjunctions)))))
  refine DRecN.sub [1] (caught_none 0 0) ?_
  (refine Sg.h ?_;try repeat' ((with_reducible first|refine brA ?_|refine brE fun _=>?_|refine spl ⟨?_,?_⟩<;>intro _)<;>((try simp -implicitDefEqProofs);(try simp -implicitDefEqProofs(disch:=first|assumption|(try simp only[lens]);omega -splitDisjunctions)))))
theorem szW_nd (w : Wd) : szW w = (ndW w).length:=by
 induction w using Wd.ind with
 | h w ih=>
  have : ∀ l : List Wd,(∀ x ∈ l,szW x = (ndW x).length) → szWs l = (ndWs l).length:=by
   intro l
   induction l with
   | nil=>intro _;rw [szWs,ndWs];rfl
   | cons a r ihr=>intro h;rw [szWs,ndWs,List.length_append,h a (by simp),ihr fun x hx=>h x (by simp [hx])]
  rw [szW_eq,ndW_eq,List.length_cons,this w.args ih]
theorem szWs_nd : ∀ l : List Wd,szWs l = (ndWs l).length
 | []=>by rw [szWs,ndWs];rfl
 | a :: r=>by rw [szWs,ndWs,List.length_append,szW_nd,szWs_nd r]
theorem szE_nd (e : Ex) : szE e = (ndE e).length:=by
 induction e using Ex.ind with
 | h e ih=>
  have : ∀ l : List Ex,(∀ x ∈ l,szE x = (ndE x).length) → szEs l = (ndEs l).length:=by
   intro l
   induction l with
   | nil=>intro _;rw [szEs,ndEs];rfl
   | cons a r ihr=>intro h;rw [szEs,ndEs,List.length_append,h a (by simp),ihr fun x hx=>h x (by simp [hx])]
  rw [szE_eq,ndE_eq,List.length_cons,List.length_append,this e.kids ih,szWs_nd]
theorem szW_put {L : Mw} (hL : SzL L) (w : Wd) : szW (putW L w) ≤ szW w * 300:=by
 induction w using Wd.ind with
 | h w ih=>
  rw [putW_eq]
  cases hl : lookW w.nm L with
  | some v=>
   have:=hL _ (lookD_mem hl)
   dsimp only at this ⊢
   rw [szW_eq w];omega
  | none=>
   dsimp only
   have : ∀ l : List Wd,(∀ x ∈ l,szW (putW L x) ≤ szW x * 300) → szWs (l.map (putW L)) ≤ szWs l * 300:=by
    intro l
    induction l with
    | nil=>intro _;simp [szWs]
    | cons a r ihr=>
     intro h
     have h1:=h a (by simp)
     have h2:=ihr fun x hx=>h x (by simp [hx])
     rw [List.map_cons,szWs,szWs];omega
   have:=this w.args ih
   rw [szW_eq,szW_eq w]
   show szWs (w.args.map (putW L)) + 1 ≤ _
   omega
theorem szWs_put {L : Mw} (hL : SzL L) : ∀ l : List Wd,szWs (l.map (putW L)) ≤ szWs l * 300
 | []=>by simp [szWs]
 | a :: r=>by have h1:=szW_put hL a;have:=szWs_put hL r;rw [List.map_cons,szWs,szWs];omega
theorem szE_put {sc : List ByteArray → List ByteArray} {fr : ByteArray → List ByteArray → ByteArray} (e : Ex) : ∀ {L : Mw},SzL L → szE (putX sc fr e L) ≤ szE e * 300:=by
 induction e using Ex.ind with
 | h e ih=>
  intro L hL
  have hk : ∀ L',SzL L' → ∀ l : List Ex,(∀ q ∈ l,q ∈ e.kids) → szEs (l.map fun q=>putX sc fr q L') ≤ szEs l * 300:=by
   intro L' hL' l
   induction l with
   | nil=>intro _;simp [szEs]
   | cons a r ihr=>
    intro h
    have h1:=ih a (h a (by simp)) hL'
    have h2:=ihr fun q hq=>h q (by simp [hq])
    rw [List.map_cons,szEs,szEs];omega
  have hw:=szWs_put hL e.words
  rw [putX_eq,szE_eq e]
  split
  ·have h1 := hk (mapX fr L e.nm (freeX sc e)) (fun p hp => by
    unfold mapX at hp
    rcases List.mem_append.1 hp with h | h
    ·exact now_sz hL _ p h
    ·split at h
     ·rw [List.mem_singleton.1 h];simp [szW,szWs]
     ·cases h) e.kids (fun q h=>h)
   rw [szE_eq]
   show szWs (e.words.map (putW L)) + szEs _ + 1 ≤ _
   dsimp only [Ex.kids,Ex.words] at *
   omega
  ·have h1 := hk L hL e.kids (fun q h => h)
   rw [szE_eq]
   show szWs (e.words.map (putW L)) + szEs _ + 1 ≤ _
   dsimp only [Ex.kids,Ex.words] at *
   omega
theorem cw_size {w : Wd} (h : (cwF w).1 = 0) : szW w ≤ 200:=by
 unfold cwF at h
 cases hw : wordW w (0,[]) with
 | ok s=>
  rw [wordW_fold] at hw
  obtain ⟨h2,h3⟩:=foldM_ok _ _ _ hw (by decide)
  rw [szW_nd]
  simpa using h2
 | error er=>
  obtain ⟨er,s⟩:=er
  rw [hw] at h
  exact absurd h (wordW_bad w _ _ _ hw)
def putO (e : Ex) (nm : ByteArray) (w : Wd) : Ex:=putX scL freshN e [(nm,w)]
def putF (e : Ex) (nm : ByteArray) (w : Wd) : Int × Int:=
 if (checkX e).1 ≠ 0 then checkX e else if isNameB nm = false then (8,0) else if (cwF w).1 ≠ 0 then cwF w else if 200 < szE (putO e nm w) then (10,0)
 else if (checkX (putO e nm w)).1 ≠ 0 then ((checkX (putO e nm w)).1,0) else (0,0)
def putR (e : Ex) (nm : ByteArray) (w : Wd) : Ex:=if (putF e nm w).1 = 0 then putO e nm w else .mk 0 ⟨#[]⟩ [] []
def x10 : XC:=.seq (.reg [⟨some 3,.box 29 (.tmp 0),none⟩,⟨some 5,.box 31 (.tmp 2),none⟩,⟨some 6,.alloc 29,none⟩,⟨some 7,.alloc 39,none⟩]) (.seq (.seq (.reg [⟨some 12,.load 29 (.tmp 3),none⟩,⟨some 13,.call ⟨.value (.func 23),#[.tmp 12],#[29]⟩,none⟩,⟨some 8,.alloc 39,none⟩,⟨none,.store 39 (.tmp 8) (.tmp 13),none⟩]) (.seq (.reg [⟨some 14,.fieldAddr 39 (.tmp 8) 0,none⟩,⟨some 15,.load 3 (.tmp 14),none⟩,⟨some 16,.binOp .neq 3 (.tmp 15) (.const (.int .i64 0)) 3,none⟩]) (.cond (.tmp 16) (.seq (.drawn 3 [⟨some 17,.build 29 #[],none⟩,⟨some 18,.load 39 (.tmp 8),none⟩,⟨none,.store 29 (.tmp 6) (.tmp 17),none⟩,⟨none,.store 39 (.tmp 7) (.tmp 18),none⟩]) .ret) .skip))) (.seq (.seq (.reg [⟨some 19,.move (.tmp 1),none⟩,⟨some 20,.call ⟨.value (.func 24),#[.tmp 19],#[9]⟩,none⟩,⟨some 21,.unOp .not 4 (.tmp 20),none⟩]) (.cond (.tmp 21) (.seq (.reg [⟨some 22,.build 29 #[],none⟩,⟨some 23,.call ⟨.value (.func 25),#[.const (.int .i64 8),.const (.int .i64 0)],#[3,3]⟩,none⟩,⟨none,.store 29 (.tmp 6) (.tmp 22),none⟩,⟨none,.store 39 (.tmp 7) (.tmp 23),none⟩]) .ret) .skip)) (.seq (.seq (.reg [⟨some 24,.load 31 (.tmp 5),none⟩,⟨some 25,.call ⟨.value (.func 26),#[.tmp 24],#[31]⟩,none⟩,⟨some 9,.alloc 39,none⟩,⟨none,.store 39 (.tmp 9) (.tmp 25),none⟩]) (.seq (.reg [⟨some 26,.fieldAddr 39 (.tmp 9) 0,none⟩,⟨some 27,.load 3 (.tmp 26),none⟩,⟨some 28,.binOp .neq 3 (.tmp 27) (.const (.int .i64 0)) 3,none⟩]) (.cond (.tmp 28) (.seq (.drawn 8 [⟨some 29,.build 29 #[],none⟩,⟨some 30,.load 39 (.tmp 9),none⟩,⟨none,.store 29 (.tmp 6) (.tmp 29),none⟩,⟨none,.store 39 (.tmp 7) (.tmp 30),none⟩]) .ret) .skip))) (.seq (.reg [⟨some 31,.load 29 (.tmp 3),none⟩,⟨some 32,.makeMap 65 none,none⟩,⟨some 33,.move (.tmp 1),none⟩,⟨some 34,.load 31 (.tmp 5),none⟩,⟨none,.insert 65 (.tmp 32) (.tmp 33) (.tmp 34),none⟩,⟨some 35,.move (.tmp 32),none⟩,⟨some 36,.call ⟨.value (.func 27),#[.tmp 31,.tmp 35],#[29,65]⟩,none⟩,⟨some 10,.alloc 29,none⟩,⟨none,.store 29 (.tmp 10) (.tmp 36),none⟩]) (.seq (.seq (.reg [⟨some 37,.load 29 (.tmp 10),none⟩,⟨some 38,.call ⟨.value (.func 28),#[.tmp 37],#[29]⟩,none⟩,⟨some 39,.binOp .gtr 3 (.tmp 38) (.const (.int .i64 200)) 3,none⟩]) (.cond (.tmp 39) (.seq (.reg [⟨some 40,.build 29 #[],none⟩,⟨some 41,.call ⟨.value (.func 25),#[.const (.int .i64 10),.const (.int .i64 0)],#[3,3]⟩,none⟩,⟨none,.store 29 (.tmp 6) (.tmp 40),none⟩,⟨none,.store 39 (.tmp 7) (.tmp 41),none⟩]) .ret) .skip)) (.seq (.seq (.reg [⟨some 42,.load 29 (.tmp 10),none⟩,⟨some 43,.call ⟨.value (.func 23),#[.tmp 42],#[29]⟩,none⟩,⟨some 11,.alloc 39,none⟩,⟨none,.store 39 (.tmp 11) (.tmp 43),none⟩]) (.seq (.reg [⟨some 44,.fieldAddr 39 (.tmp 11) 0,none⟩,⟨some 45,.load 3 (.tmp 44),none⟩,⟨some 46,.binOp .neq 3 (.tmp 45) (.const (.int .i64 0)) 3,none⟩]) (.cond (.tmp 46) (.seq (.reg [⟨some 47,.build 29 #[],none⟩,⟨some 48,.fieldAddr 39 (.tmp 11) 0,none⟩,⟨some 49,.load 3 (.tmp 48),none⟩,⟨some 50,.call ⟨.value (.func 25),#[.tmp 49,.const (.int .i64 0)],#[3,3]⟩,none⟩,⟨none,.store 29 (.tmp 6) (.tmp 47),none⟩,⟨none,.store 39 (.tmp 7) (.tmp 50),none⟩]) .ret) .skip))) (.seq (.reg [⟨some 51,.load 29 (.tmp 10),none⟩,⟨some 52,.build 39 #[],none⟩,⟨none,.store 29 (.tmp 6) (.tmp 51),none⟩,⟨none,.store 39 (.tmp 7) (.tmp 52),none⟩]) .ret)))))))
@[simp] theorem x10_s {C e s K} : type_of% (@X_at C e s K _ _ x10.eq_1):=X_at x10.eq_1
def an10 : Ann:=⟨[(3,.mix3 2 1),(8,.mix3 2 1)],[],[]⟩
@[simp] theorem an10_a : an10.clsOf 3 = .mix3 2 1 ∧ an10.clsOf 8 = .mix3 2 1 ∧ an10.frzOf 3 = [] ∧ an10.frzOf 8 = []:=⟨rfl,rfl,rfl,rfl⟩
theorem fi10 : FI Try.prog 10 (cxA an10) x10 [.cell 6 29,.cell 7 39] Try.f10:=fiA Try.func10 mixed
theorem Put_first (e : Ex) (nm : ByteArray) (w : Wd) : CallOK Try.prog 10 [.agg (exr e),.str nm,.agg (wrd w)] [] (.tuple [.agg (exr (putR e nm w)),.agg [.int .i64 (putF e nm w).1,.int .i64 (putF e nm w).2]]) []:=by
 have c1:=Check_first e
 have c2:=CheckWord_first w
 have hn:=isName_formula nm []
 have hf:=fun c a=>fault_first c a
 obtain ⟨R,hR⟩ : ∃ R,putF e nm w = R:=⟨_,rfl⟩
 unfold putR
 rw [hR]
 unfold putF at hR
 have hz : exr (.mk 0 ⟨#[]⟩ [] []) = [.int .i64 0,.str ⟨#[]⟩,.list [],.list []]:=by simp [exr_eq]
 refine fi10.os ?_
 by_cases h1 : (checkX e).1 = 0
 rotate_left
 ·rw [if_pos h1] at hR
  rw [hR] at c1 h1
  rw [if_neg h1,hz]
  (refine Sg.h ?_;try repeat' ((first|(with_reducible first|refine brA ?_|refine brE fun _=>?_|refine spl ⟨?_,?_⟩<;>intro _)|refine clo c1 ?_)<;>((try simp -implicitDefEqProofs [h1]);(try simp -implicitDefEqProofs(disch:=first|assumption|(try simp only[lens]);omega -splitDisjunctions) [h1]))))
 rw [if_neg (fun g=>g h1)] at hR
 have en:=(checkM_ok h1).1
 rw [checkX_zero h1] at c1
 cases h2 : isNameB nm with
 | false=>
  rw [h2,if_pos rfl] at hR
  subst hR
  rw [h2] at hn
  have f8:=hf 8 0
  rw [if_neg (by decide),hz]
  (refine Sg.h ?_;try repeat' ((first|(with_reducible first|refine brA ?_|refine brE fun _=>?_|refine spl ⟨?_,?_⟩<;>intro _)|refine clo c1 ?_|refine clo hn ?_|refine clo f8 ?_)<;>((try simp -implicitDefEqProofs);(try simp -implicitDefEqProofs(disch:=first|assumption|(try simp only[lens]);omega -splitDisjunctions)))))
 | true=>
 rw [h2,if_neg (by simp)] at hR
 rw [h2] at hn
 by_cases h3 : (cwF w).1 = 0
 rotate_left
 ·rw [if_pos h3] at hR
  rw [hR] at c2 h3
  rw [if_neg h3,hz]
  (refine Sg.h ?_;try repeat' ((first|(with_reducible first|refine brA ?_|refine brE fun _=>?_|refine spl ⟨?_,?_⟩<;>intro _)|refine clo c1 ?_|refine clo hn ?_|refine clo c2 ?_)<;>((try simp -implicitDefEqProofs [h3]);(try simp -implicitDefEqProofs(disch:=first|assumption|(try simp only[lens]);omega -splitDisjunctions) [h3]))))
 rw [if_neg (fun g=>g h3)] at hR
 have hw:=cw_size h3
 have hL : SzL [(nm,w)]:=fun p hp=>by rw [List.mem_singleton.1 hp];show szW w ≤ 300;omega
 have he : szE e ≤ 300:=by rw [szE_nd];omega
 have hpi:=PutIn_first scL scL_len comp_nodup (fun l=>(comp_ok l).2) FreeOf_first e [(nm,w)] he hL
 have hpz:=szE_put (sc:=scL) (fr:=freshN) e hL
 have hm : mapW [(nm,w)] = [(.str nm,.agg (wrd w))]:=rfl
 rw [hm] at hpi
 change CallOK _ _ _ _ (.agg (exr (putO e nm w))) _ at hpi
 change szE (putO e nm w) ≤ _ at hpz
 have hcn:=Count_first (putO e nm w) (by omega)
 have c3:=Check_first (putO e nm w)
 have f10:=hf 10 0
 obtain ⟨k,hk⟩ : ∃ k,szE (putO e nm w) = k:=⟨_,rfl⟩
 rw [hk] at hcn hR hpz
 clear hk
 generalize putO e nm w = o at *
 generalize cwF w = q at *
 have h3' : q.1 = 0:=h3
 by_cases h4 : 200 < k
 ·rw [if_pos h4] at hR
  subst hR
  have h4' : (200 : Int) < (k : Int):=by omega
  rw [if_neg (by decide),hz]
  (refine Sg.h ?_;try repeat' ((first|(with_reducible first|refine brA ?_|refine brE fun _=>?_|refine spl ⟨?_,?_⟩<;>intro _)|refine clo c1 ?_|refine clo hn ?_|refine clo c2 ?_)<;>((try simp -implicitDefEqProofs [h3']);(try simp -implicitDefEqProofs(disch:=first|assumption|(try simp only[lens]);omega -splitDisjunctions) [h3']))))
  refine CL.giv [6] ?_
  (refine Sg.h ?_;try repeat' ((first|(with_reducible first|refine brA ?_|refine brE fun _=>?_|refine spl ⟨?_,?_⟩<;>intro _)|refine clo hpi ?_|refine clo hcn ?_|refine clo f10 ?_)<;>((try simp -implicitDefEqProofs [h4']);(try simp -implicitDefEqProofs(disch:=first|assumption|(try simp only[lens]);omega -splitDisjunctions) [h4']))))
 rw [if_neg h4] at hR
 have h4' : ¬ (200 : Int) < (k : Int):=by omega
 have f3:=hf (checkX o).1 0
 generalize checkX o = q3 at *
 by_cases h5 : q3.1 = 0
 rotate_left
 ·rw [if_pos h5] at hR
  subst hR
  rw [if_neg h5,hz]
  (refine Sg.h ?_;try repeat' ((first|(with_reducible first|refine brA ?_|refine brE fun _=>?_|refine spl ⟨?_,?_⟩<;>intro _)|refine clo c1 ?_|refine clo hn ?_|refine clo c2 ?_)<;>((try simp -implicitDefEqProofs [h3']);(try simp -implicitDefEqProofs(disch:=first|assumption|(try simp only[lens]);omega -splitDisjunctions) [h3']))))
  refine CL.giv [6] ?_
  (refine Sg.h ?_;try repeat' ((first|(with_reducible first|refine brA ?_|refine brE fun _=>?_|refine spl ⟨?_,?_⟩<;>intro _)|refine clo hpi ?_|refine clo hcn ?_|refine clo c3 ?_|refine clo f3 ?_)<;>((try simp -implicitDefEqProofs [h4',h5]);(try simp -implicitDefEqProofs(disch:=first|assumption|(try simp only[lens]);omega -splitDisjunctions) [h4',h5]))))
 ·rw [if_neg (fun g => g h5)] at hR
  subst hR
  rw [if_pos rfl]
  (refine Sg.h ?_;try repeat' ((first|(with_reducible first|refine brA ?_|refine brE fun _=>?_|refine spl ⟨?_,?_⟩<;>intro _)|refine clo c1 ?_|refine clo hn ?_|refine clo c2 ?_)<;>((try simp -implicitDefEqProofs [h3']);(try simp -implicitDefEqProofs(disch:=first|assumption|(try simp only[lens]);omega -splitDisjunctions) [h3']))))
  refine CL.giv [6] ?_
  (refine Sg.h ?_;try repeat' ((first|(with_reducible first|refine brA ?_|refine brE fun _=>?_|refine spl ⟨?_,?_⟩<;>intro _)|refine clo hpi ?_|refine clo hcn ?_|refine clo c3 ?_)<;>((try simp -implicitDefEqProofs [h4',h5]);(try simp -implicitDefEqProofs(disch:=first|assumption|(try simp only[lens]);omega -splitDisjunctions) [h4',h5]))))
theorem putF_zero {e : Ex} {nm : ByteArray} {w : Wd} (h : (putF e nm w).1 = 0) : (checkX e).1 = 0 ∧ isNameB nm = true ∧ (cwF w).1 = 0 ∧ (checkX (putO e nm w)).1 = 0 ∧ putF e nm w = (0,0) ∧ putR e nm w = putO e nm w:=by
 have h0:=h
 have h6 : putR e nm w = putO e nm w:=by unfold putR;rw [if_pos h]
 unfold putF at h
 by_cases h1 : (checkX e).1 = 0
 rotate_left
 ·rw [if_pos h1] at h;exact absurd h h1
 rw [if_neg (fun g=>g h1)] at h
 cases h2 : isNameB nm with
 | false=>rw [h2,if_pos rfl] at h;cases h
 | true=>
 rw [h2,if_neg (by simp)] at h
 by_cases h3 : (cwF w).1 = 0
 rotate_left
 ·rw [if_pos h3] at h;exact absurd h h3
 rw [if_neg (fun g=>g h3)] at h
 by_cases h4 : 200 < szE (putO e nm w)
 ·rw [if_pos h4] at h;cases h
 rw [if_neg h4] at h
 by_cases h5 : (checkX (putO e nm w)).1 = 0
 rotate_left
 ·rw [if_pos h5] at h;exact absurd h h5
 refine ⟨h1,rfl,h3,h5,?_,h6⟩
 unfold putF
 rw [if_neg (fun g=>g h1),h2,if_neg (by simp),if_neg (fun g=>g h3),if_neg h4,if_neg (fun g=>g h5)]
end Go.Proofs.Ytbimioonhfhflaa
