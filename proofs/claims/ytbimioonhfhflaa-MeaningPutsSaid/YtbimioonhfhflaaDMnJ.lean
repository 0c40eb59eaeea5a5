import Derived.Test.YtbimioonhfhflaaDPvOz
import Derived.Test.YtbimioonhfhflaaDFbF
import Derived.Test.YtbimioonhfhflaaDMnL
import Derived.Test.YtbimioonhfhflaaDPvMov
set_option linter.unusedVariables false
set_option linter.unusedSimpArgs false
set_option maxRecDepth 100000
set_option maxHeartbeats 4000000
namespace Go.Proofs.Ytbimioonhfhflaa
open Go Go.Pv
def cwF (w : Wd) : Int × Int:=match wordW w (0,[]) with
 | .ok _=>(0,0)
 | .error (er,_)=>(er.1,(er.2 : Int))
def x26 : XC:=.seq (.reg [⟨some 1,.box 31 (.tmp 0),none⟩,⟨some 2,.alloc 39,none⟩]) (.seq (.reg [⟨none,.defer ⟨.value (.func 40),#[.tmp 2],#[77]⟩,none⟩]) (.seq (.reg [⟨some 4,.makeMap 67 none,none⟩,⟨some 5,.build 80 #[(1,.tmp 4)],none⟩,⟨some 6,.box 80 (.tmp 5),none⟩,⟨some 3,.assign (.tmp 6),none⟩]) (.seq (.reg [⟨some 7,.move (.tmp 3),none⟩,⟨some 8,.load 31 (.tmp 1),none⟩,⟨some 9,.call ⟨.value (.func 42),#[.tmp 7,.tmp 8],#[78,31]⟩,none⟩]) (.seq (.reg [⟨some 10,.load 39 (.tmp 2),none⟩,⟨none,.store 39 (.tmp 2) (.tmp 10),none⟩]) .ret))))
@[simp] theorem x26_s {C e s K} : type_of% (@X_at C e s K _ _ x26.eq_1):=X_at x26.eq_1
def an26 : Ann:=⟨[],[],[]⟩
theorem fdn_checkw : FDN Try.prog 26 (cxA an26) (preX 1 x26) 2 40 (dropX 2 x26) [.cell 2 39] Try.f26:=fdnA Try.func26 mixed (by decide +kernel) (by kernel_rfl) (by kernel_rfl)
theorem CheckWord_first (w : Wd) : CallOK Try.prog 26 [.agg (wrd w)] [] (.agg [.int .i64 (cwF w).1,.int .i64 (cwF w).2]) []:=by
 have hc:=word_walker w (0,[]) (by simp)
 refine FDN.os fdn_checkw ?_
 simp only [x26,preX,dropX]
 unfold cwF
 cases hw : wordW w (0,[]) with
 | error er=>
  obtain ⟨er,s'⟩:=er
  rw [hw] at hc
  simp only [ToldW] at hc
  (refine Sg.h ?_;try repeat' ((with_reducible first|refine brA ?_|refine brE fun _=>?_|refine spl ⟨?_,?_⟩<;>intro _)<;>((try simp -implicitDefEqProofs(disch:=first|assumption|(try simp only[lens]);omega -splitDisjunctions)))))
  refine CL.psub [3,2] (s2:=wk s') (v:=stopE er.1 er.2) (by simpa [liveS,mapI] using hc) ?_
  (refine Sg.h ?_;try repeat' ((with_reducible first|refine brA ?_|refine brE fun _=>?_|refine spl ⟨?_,?_⟩<;>intro _)<;>((try simp -implicitDefEqProofs(disch:=first|assumption|(try simp only[lens]);omega -splitDisjunctions)))))
  refine DRecN.sub [1] (caught_stop er.1 er.2 0 0) ?_
  (refine Sg.h ?_;try repeat' ((with_reducible first|refine brA ?_|refine brE fun _=>?_|refine spl ⟨?_,?_⟩<;>intro _)<;>((try simp -implicitDefEqProofs(disch:=first|assumption|(try simp only[lens]);omega -splitDisjunctions)))))
 | ok s'=>
  rw [hw] at hc
  simp only [ToldW] at hc
  (refine Sg.h ?_;try repeat' ((with_reducible first|refine brA ?_|refine brE fun _=>?_|refine spl ⟨?_,?_⟩<;>intro _)<;>((try simp -implicitDefEqProofs(disch:=first|assumption|(try simp only[lens]);omega -splitDisjunctions)))))
  refine CL.sub [3,2] (s2:=wk s') (v:=.tuple []) (by simpa [liveS,mapI] using hc) ?_
  (refine Sg.h ?_;try repeat' ((with_reducible first|refine brA ?_|refine brE fun _=>?_|refine spl ⟨?_,?_⟩<;>intro _)<;>((try simp -implicitDefEqProofs(disch:=first|assumption|(try simp only[lens]);omega -splitDisjunctions)))))
  refine DRecN.sub [1] (caught_none 0 0) ?_
  (refine Sg.h ?_;try repeat' ((with_reducible first|refine brA ?_|refine brE fun _=>?_|refine spl ⟨?_,?_⟩<;>intro _)<;>((try simp -implicitDefEqProofs(disch:=first|assumption|(try simp only[lens]);omega -splitDisjunctions)))))
theorem szW_nd (w : Wd) : szW w = (ndW w).length:=by
 induction w using Wd.ind with
 | h w ih=>
  have : ∀ l : List Wd,(∀ x ∈ l,szW x = (ndW x).length) → szWs l = (ndWs l).length:=by
   intro l
   induction l with
   | nil=>intro _;rw [szWs,ndWs];rfl
   | cons a r ihr=>intro h;rw [szWs,ndWs,List.length_append,h a (by simp),ihr fun x hx=>h x (by simp [hx])]
  rw [szW_eq,ndW_eq,List.length_cons,this w.args ih]
theorem szWs_nd : ∀ l : List Wd,szWs l = (ndWs l).length
 | []=>by rw [szWs,ndWs];rfl
 | a :: r=>by rw [szWs,ndWs,List.length_append,szW_nd,szWs_nd r]
theorem szE_nd (e : Ex) : szE e = (ndE e).length:=by
 induction e using Ex.ind with
 | h e ih=>
  have : ∀ l : List Ex,(∀ x ∈ l,szE x = (ndE x).length) → szEs l = (ndEs l).length:=by
   intro l
   induction l with
   | nil=>intro _;rw [szEs,ndEs];rfl
   | cons a r ihr=>intro h;rw [szEs,ndEs,List.length_append,h a (by simp),ihr fun x hx=>h x (by simp [hx])]
  rw [szE_eq,ndE_eq,List.length_cons,List.length_append,this e.kids ih,szWs_nd]
theorem szW_put {L : Mw} (hL : SzL L) (w : Wd) : szW (putW L w) ≤ szW w * 300:=by
 induction w using Wd.ind with
 | h w ih=>
  rw [putW_eq]
  cases hl : lookW w.nm L with
  | some v=>
   have:=hL _ (lookD_mem hl)
   dsimp only at this ⊢
   rw [szW_eq w];omega
  | none=>
   dsimp only
   have : ∀ l : List Wd,(∀ x ∈ l,szW (putW L x) ≤ szW x * 300) → szWs (l.map (putW L)) ≤ szWs l * 300:=by
    intro l
    induction l with
    | nil=>intro _;simp [szWs]
    | cons a r ihr=>
     intro h
     have h1:=h a (by simp)
     have h2:=ihr fun x hx=>h x (by simp [hx])
     rw [List.map_cons,szWs,szWs];omega
   have:=this w.args ih
   rw [szW_eq,szW_eq w]
   show szWs (w.args.map (putW L)) + 1 ≤ _
   omega
theorem szWs_put {L : Mw} (hL : SzL L) : ∀ l : List Wd,szWs (l.map (putW L)) ≤ szWs l * 300
 | []=>by simp [szWs]
 | a :: r=>by have h1:=szW_put hL a;have:=szWs_put hL r;rw [List.map_cons,szWs,szWs];omega
theorem szE_put {sc : List ByteArray → List ByteArray} {fr : ByteArray → List ByteArray → ByteArray} (e : Ex) : ∀ {L : Mw},SzL L → szE (putX sc fr e L) ≤ szE e * 300:=by
 induction e using Ex.ind with
 | h e ih=>
  intro L hL
  have hk : ∀ L',SzL L' → ∀ l : List Ex,(∀ q ∈ l,q ∈ e.kids) → szEs (l.map fun q=>putX sc fr q L') ≤ szEs l * 300:=by
   intro L' hL' l
   induction l with
   | nil=>intro _;simp [szEs]
   | cons a r ihr=>
    intro h
    have h1:=ih a (h a (by simp)) hL'
    have h2:=ihr fun q hq=>h q (by simp [hq])
    rw [List.map_cons,szEs,szEs];omega
  have hw:=szWs_put hL e.words
  rw [putX_eq,szE_eq e]
  split
  ·have h1 := hk (mapX fr L e.nm (freeX sc e)) (fun p hp => by
    unfold mapX at hp
    rcases List.mem_append.1 hp with h | h
    ·exact now_sz hL _ p h
    ·split at h
     ·rw [List.mem_singleton.1 h];simp [szW,szWs]
     ·cases h) e.kids (fun q h=>h)
   rw [szE_eq]
   show szWs (e.words.map (putW L)) + szEs _ + 1 ≤ _
   dsimp only [Ex.kids,Ex.words] at *
   omega
  ·have h1 := hk L hL e.kids (fun q h => h)
   rw [szE_eq]
   show szWs (e.words.map (putW L)) + szEs _ + 1 ≤ _
   dsimp only [Ex.kids,Ex.words] at *
   omega
theorem cw_size {w : Wd} (h : (cwF w).1 = 0) : szW w ≤ 200:=by
 unfold cwF at h
 cases hw : wordW w (0,[]) with
 | ok s=>
  rw [wordW_fold] at hw
  obtain ⟨h2,h3⟩:=foldM_ok _ _ _ hw (by decide)
  rw [szW_nd]
  simpa using h2
 | error er=>
  obtain ⟨er,s⟩:=er
  rw [hw] at h
  exact absurd h (wordW_bad w _ _ _ hw)
def putO (e : Ex) (nm : ByteArray) (w : Wd) : Ex:=putX scL freshN e [(nm,w)]
def putF (e : Ex) (nm : ByteArray) (w : Wd) : Int × Int:=
 if (checkX e).1 ≠ 0 then checkX e else if isNameB nm = false then (8,0) else if (cwF w).1 ≠ 0 then cwF w else if 200 < szE (putO e nm w) then (10,0)
 else if (checkX (putO e nm w)).1 ≠ 0 then ((checkX (putO e nm w)).1,0) else (0,0)
def putR (e : Ex) (nm : ByteArray) (w : Wd) : Ex:=if (putF e nm w).1 = 0 then putO e nm w else .mk 0 ⟨#[]⟩ [] []
def x10 : XC:=.seq (.reg [⟨some 3,.box 29 (.tmp 0),none⟩,⟨some 5,.box 31 (.tmp 2),none⟩,⟨some 6,.alloc 29,none⟩,⟨some 7,.alloc 39,none⟩]) (.seq (.seq (.reg [⟨some 12,.load 29 (.tmp 3),none⟩,⟨some 13,.call ⟨.value (.func 23),#[.tmp 12],#[29]⟩,none⟩,⟨some 8,.alloc 39,none⟩,⟨none,.store 39 (.tmp 8) (.tmp 13),none⟩]) (.seq (.reg [⟨some 14,.fieldAddr 39 (.tmp 8) 0,none⟩,⟨some 15,.load 3 (.tmp 14),none⟩,⟨some 16,.binOp .neq 3 (.tmp 15) (.const (.int .i64 0)) 3,none⟩]) (.cond (.tmp 16) (.seq (.drawn 3 [⟨some 17,.build 29 #[],none⟩,⟨some 18,.load 39 (.tmp 8),none⟩,⟨none,.store 29 (.tmp 6) (.tmp 17),none⟩,⟨none,.store 39 (.tmp 7) (.tmp 18),none⟩]) .ret) .skip))) (.seq (.seq (.reg [⟨some 19,.move (.tmp 1),none⟩,⟨some 20,.call ⟨.value (.func 24),#[.tmp 19],#[9]⟩,none⟩,⟨some 21,.unOp .not 4 (.tmp 20),none⟩]) (.cond (.tmp 21) (.seq (.reg [⟨some 22,.build 29 #[],none⟩,⟨some 23,.call ⟨.value (.func 25),#[.const (.int .i64 8),.const (.int .i64 0)],#[3,3]⟩,none⟩,⟨none,.store 29 (.tmp 6) (.tmp 22),none⟩,⟨none,.store 39 (.tmp 7) (.tmp 23),none⟩]) .ret) .skip)) (.seq (.seq (.reg [⟨some 24,.load 31 (.tmp 5),none⟩,⟨some 25,.call ⟨.value (.func 26),#[.tmp 24],#[31]⟩,none⟩,⟨some 9,.alloc 39,none⟩,⟨none,.store 39 (.tmp 9) (.tmp 25),none⟩]) (.seq (.reg [⟨some 26,.fieldAddr 39 (.tmp 9) 0,none⟩,⟨some 27,.load 3 (.tmp 26),none⟩,⟨some 28,.binOp .neq 3 (.tmp 27) (.const (.int .i64 0)) 3,none⟩]) (.cond (.tmp 28) (.seq (.drawn 8 [⟨some 29,.build 29 #[],none⟩,⟨some 30,.load 39 (.tmp 9),none⟩,⟨none,.store 29 (.tmp 6) (.tmp 29),none⟩,⟨none,.store 39 (.tmp 7) (.tmp 30),none⟩]) .ret) .skip))) (.seq (.reg [⟨some 31,.load 29 (.tmp 3),none⟩,⟨some 32,.makeMap 65 none,none⟩,⟨some 33,.move (.tmp 1),none⟩,⟨some 34,.load 31 (.tmp 5),none⟩,⟨none,.insert 65 (.tmp 32) (.tmp 33) (.tmp 34),none⟩,⟨some 35,.move (.tmp 32),none⟩,⟨some 36,.call ⟨.value (.func 27),#[.tmp 31,.tmp 35],#[29,65]⟩,none⟩,⟨some 10,.alloc 29,none⟩,⟨none,.store 29 (.tmp 10) (.tmp 36),none⟩]) (.seq (.seq (.reg [⟨some 37,.load 29 (.tmp 10),none⟩,⟨some 38,.call ⟨.value (.func 28),#[.tmp 37],#[29]⟩,none⟩,⟨some 39,.binOp .gtr 3 (.tmp 38) (.const (.int .i64 200)) 3,none⟩]) (.cond (.tmp 39) (.seq (.reg [⟨some 40,.build 29 #[],none⟩,⟨some 41,.call ⟨.value (.func 25),#[.const (.int .i64 10),.const (.int .i64 0)],#[3,3]⟩,none⟩,⟨none,.store 29 (.tmp 6) (.tmp 40),none⟩,⟨none,.store 39 (.tmp 7) (.tmp 41),none⟩]) .ret) .skip)) (.seq (.seq (.reg [⟨some 42,.load 29 (.tmp 10),none⟩,⟨some 43,.call ⟨.value (.func 23),#[.tmp 42],#[29]⟩,none⟩,⟨some 11,.alloc 39,none⟩,⟨none,.store 39 (.tmp 11) (.tmp 43),none⟩]) (.seq (.reg [⟨some 44,.fieldAddr 39 (.tmp 11) 0,none⟩,⟨some 45,.load 3 (.tmp 44),none⟩,⟨some 46,.binOp .neq 3 (.tmp 45) (.const (.int .i64 0)) 3,none⟩]) (.cond (.tmp 46) (.seq (.reg [⟨some 47,.build 29 #[],none⟩,⟨some 48,.fieldAddr 39 (.tmp 11) 0,none⟩,⟨some 49,.load 3 (.tmp 48),none⟩,⟨some 50,.call ⟨.value (.func 25),#[.tmp 49,.const (.int .i64 0)],#[3,3]⟩,none⟩,⟨none,.store 29 (.tmp 6) (.tmp 47),none⟩,⟨none,.store 39 (.tmp 7) (.tmp 50),none⟩]) .ret) .skip))) (.seq (.reg [⟨some 51,.load 29 (.tmp 10),none⟩,⟨some 52,.build 39 #[],none⟩,⟨none,.store 29 (.tmp 6) (.tmp 51),none⟩,⟨none,.store 39 (.tmp 7) (.tmp 52),none⟩]) .ret)))))))
@[simp] theorem x10_s {C e s K} : type_of% (@X_at C e s K _ _ x10.eq_1):=X_at x10.eq_1
def an10 : Ann:=⟨[(3,.mix3 2 1),(8,.mix3 2 1)],[],[]⟩
@[simp] theorem an10_a : an10.clsOf 3 = .mix3 2 1 ∧ an10.clsOf 8 = .mix3 2 1 ∧ an10.frzOf 3 = [] ∧ an10.frzOf 8 = []:=⟨rfl,rfl,rfl,rfl⟩
theorem fi10 : FI Try.prog 10 (cxA an10) x10 [.cell 6 29,.cell 7 39] Try.f10:=fiA Try.func10 mixed
theorem Put_first (e : Ex) (nm : ByteArray) (w : Wd) : CallOK Try.prog 10 [.agg (exr e),.str nm,.agg (wrd w)] [] (.tuple [.agg (exr (putR e nm w)),.agg [.int .i64 (putF e nm w).1,.int .i64 (putF e nm w).2]]) []:=by
 have c1:=Check_first e
 have c2:=CheckWord_first w
 have hn:=isName_formula nm []
 have hf:=fun c a=>fault_first c a
 obtain ⟨R,hR⟩ : ∃ R,putF e nm w = R:=⟨_,rfl⟩
 unfold putR
 rw [hR]
 unfold putF at hR
 have hz : exr (.mk 0 ⟨#[]⟩ [] []) = [.int .i64 0,.str ⟨#[]⟩,.list [],.list []]:=by simp [exr_eq]
 refine fi10.os ?_
 by_cases h1 : (checkX e).1 = 0
 rotate_left
 ·rw [if_pos h1] at hR
  rw [hR] at c1 h1
  rw [if_neg h1,hz]
  (refine Sg.h ?_;try repeat' ((first|(with_reducible first|refine brA ?_|refine brE fun _=>?_|refine spl ⟨?_,?_⟩<;>intro _)|refine clo c1 ?_)<;>((try simp -implicitDefEqProofs(disch:=first|assumption|(try simp only[lens]);omega -splitDisjunctions) [h1]))))
 rw [if_neg (fun g=>g h1)] at hR
 have en:=(checkM_ok h1).1
 rw [checkX_zero h1] at c1
 cases h2 : isNameB nm with
 | false=>
  rw [h2,if_pos rfl] at hR
  subst hR
  rw [h2] at hn
  have f8:=hf 8 0
  rw [if_neg (by decide),hz]
  (refine Sg.h ?_;try repeat' ((first|(with_reducible first|refine brA ?_|refine brE fun _=>?_|refine spl ⟨?_,?_⟩<;>intro _)|refine clo c1 ?_|refine clo hn ?_|refine clo f8 ?_)<;>((try simp -implicitDefEqProofs(disch:=first|assumption|(try simp only[lens]);omega -splitDisjunctions)))))
 | true=>
 rw [h2,if_neg (by simp)] at hR
 rw [h2] at hn
 by_cases h3 : (cwF w).1 = 0
 rotate_left
 ·rw [if_pos h3] at hR
  rw [hR] at c2 h3
  rw [if_neg h3,hz]
  (refine Sg.h ?_;try repeat' ((first|(with_reducible first|refine brA ?_|refine brE fun _=>?_|refine spl ⟨?_,?_⟩<;>intro _)|refine clo c1 ?_|refine clo hn ?_|refine clo c2 ?_)<;>((try simp -implicitDefEqProofs(disch:=first|assumption|(try simp only[lens]);omega -splitDisjunctions) [h3]))))
 rw [if_neg (fun g=>g h3)] at hR
 have hw:=cw_size h3
 have hL : SzL [(nm,w)]:=fun p hp=>by rw [List.mem_singleton.1 hp];show szW w ≤ 300;omega
 have he : szE e ≤ 300:=by rw [szE_nd];omega
 have hpi:=PutIn_first scL scL_len comp_nodup (fun l=>(comp_ok l).2) FreeOf_first e [(nm,w)] he hL
 have hpz:=szE_put (sc:=scL) (fr:=freshN) e hL
 have hm : mapW [(nm,w)] = [(.str nm,.agg (wrd w))]:=rfl
 rw [hm] at hpi
 change CallOK _ _ _ _ (.agg (exr (putO e nm w))) _ at hpi
 change szE (putO e nm w) ≤ _ at hpz
 have hcn:=Count_first (putO e nm w) (by omega)
 have c3:=Check_first (putO e nm w)
 have f10:=hf 10 0
 obtain ⟨k,hk⟩ : ∃ k,szE (putO e nm w) = k:=⟨_,rfl⟩
 rw [hk] at hcn hR hpz
 clear hk
 generalize putO e nm w = o at *
 generalize cwF w = q at *
 have h3' : q.1 = 0:=h3
 by_cases h4 : 200 < k
 ·rw [if_pos h4] at hR
  subst hR
  have h4' : (200 : Int) < (k : Int):=by omega
  rw [if_neg (by decide),hz]
  (refine Sg.h ?_;try repeat' ((first|(with_reducible first|refine brA ?_|refine brE fun _=>?_|refine spl ⟨?_,?_⟩<;>intro _)|refine clo c1 ?_|refine clo hn ?_|refine clo c2 ?_)<;>((try simp -implicitDefEqProofs(disch:=first|assumption|(try simp only[lens]);omega -splitDisjunctions) [h3']))))
  refine CL.giv [6] ?_
  (refine Sg.h ?_;try repeat' ((first|(with_reducible first|refine brA ?_|refine brE fun _=>?_|refine spl ⟨?_,?_⟩<;>intro _)|refine clo hpi ?_|refine clo hcn ?_|refine clo f10 ?_)<;>((try simp -implicitDefEqProofs(disch:=first|assumption|(try simp only[lens]);omega -splitDisjunctions) [h4']))))
 rw [if_neg h4] at hR
 have h4' : ¬ (200 : Int) < (k : Int):=by omega
 have f3:=hf (checkX o).1 0
 generalize checkX o = q3 at *
 by_cases h5 : q3.1 = 0
 rotate_left
 ·rw [if_pos h5] at hR
  subst hR
  rw [if_neg h5,hz]
  (refine Sg.h ?_;try repeat' ((first|(with_reducible first|refine brA ?_|refine brE fun _=>?_|refine spl ⟨?_,?_⟩<;>intro _)|refine clo c1 ?_|refine clo hn ?_|refine clo c2 ?_)<;>((try simp -implicitDefEqProofs(disch:=first|assumption|(try simp only[lens]);omega -splitDisjunctions) [h3']))))
  refine CL.giv [6] ?_
  (refine Sg.h ?_;try repeat' ((first|(with_reducible first|refine brA ?_|refine brE fun _=>?_|refine spl ⟨?_,?_⟩<;>intro _)|refine clo hpi ?_|refine clo hcn ?_|refine clo c3 ?_|refine clo f3 ?_)<;>((try simp -implicitDefEqProofs(disch:=first|assumption|(try simp only[lens]);omega -splitDisjunctions) [h4',h5]))))
 ·rw [if_neg (fun g => g h5)] at hR
  subst hR
  rw [if_pos rfl]
  (refine Sg.h ?_;try repeat' ((first|(with_reducible first|refine brA ?_|refine brE fun _=>?_|refine spl ⟨?_,?_⟩<;>intro _)|refine clo c1 ?_|refine clo hn ?_|refine clo c2 ?_)<;>((try simp -implicitDefEqProofs(disch:=first|assumption|(try simp only[lens]);omega -splitDisjunctions) [h3']))))
  refine CL.giv [6] ?_
  (refine Sg.h ?_;try repeat' ((first|(with_reducible first|refine brA ?_|refine brE fun _=>?_|refine spl ⟨?_,?_⟩<;>intro _)|refine clo hpi ?_|refine clo hcn ?_|refine clo c3 ?_)<;>((try simp -implicitDefEqProofs(disch:=first|assumption|(try simp only[lens]);omega -splitDisjunctions) [h4',h5]))))
theorem putF_zero {e : Ex} {nm : ByteArray} {w : Wd} (h : (putF e nm w).1 = 0) : (checkX e).1 = 0 ∧ isNameB nm = true ∧ (cwF w).1 = 0 ∧ (checkX (putO e nm w)).1 = 0 ∧ putF e nm w = (0,0) ∧ putR e nm w = putO e nm w:=by
 have h0:=h
 have h6 : putR e nm w = putO e nm w:=by unfold putR;rw [if_pos h]
 unfold putF at h
 by_cases h1 : (checkX e).1 = 0
 rotate_left
 ·rw [if_pos h1] at h;exact absurd h h1
 rw [if_neg (fun g=>g h1)] at h
 cases h2 : isNameB nm with
 | false=>rw [h2,if_pos rfl] at h;cases h
 | true=>
 rw [h2,if_neg (by simp)] at h
 by_cases h3 : (cwF w).1 = 0
 rotate_left
 ·rw [if_pos h3] at h;exact absurd h h3
 rw [if_neg (fun g=>g h3)] at h
 by_cases h4 : 200 < szE (putO e nm w)
 ·rw [if_pos h4] at h;cases h
 rw [if_neg h4] at h
 by_cases h5 : (checkX (putO e nm w)).1 = 0
 rotate_left
 ·rw [if_pos h5] at h;exact absurd h h5
 refine ⟨h1,rfl,h3,h5,?_,h6⟩
 unfold putF
 rw [if_neg (fun g=>g h1),h2,if_neg (by simp),if_neg (fun g=>g h3),if_neg h4,if_neg (fun g=>g h5)]
end Go.Proofs.Ytbimioonhfhflaa
namespace Go.Proofs.Ytbimioonhfhflaa
open Go Go.Pv
theorem Contains_strs (l : List ByteArray) (hl : l.length ≤ 1000000) (x : ByteArray) : CallOK Try.prog 53 [.list (l.map strRow),.str x] [] (.bool (l.any fun y=>decide (x = y))) []:=Contains_has l hl x
def x55 : XC:=.seq (.reg [⟨some 2,.assign (.const (.slice none 0 0)),none⟩]) (.seq (.reg [⟨some 3,.move (.tmp 0),none⟩,⟨some 4,.move (.tmp 0),none⟩,⟨some 5,.call ⟨.builtin .len,#[.tmp 4],#[32]⟩,none⟩,⟨some 6,.move (.tmp 0),none⟩,⟨some 7,.call ⟨.builtin .len,#[.tmp 6],#[32]⟩,none⟩,⟨some 8,.slice 32 (.tmp 3) none (some (.tmp 5)) (some (.tmp 7)),none⟩,⟨some 2,.assign (.tmp 8),none⟩]) .ret)
@[simp] theorem x55_s {C e s K} : type_of% (@X_at C e s K _ _ x55.eq_1):=X_at x55.eq_1
def an55 : Ann:=⟨[],[],[]⟩
theorem fi55 : FI Try.prog 55 (cxA an55) x55 [.tmp 2] Try.f55:=fiA Try.func55 mixed
theorem Clip_strs (l : List ByteArray) (hl : l.length ≤ 1000000) : CallOK Try.prog 55 [.list (l.map strRow)] [] (.clip 1 (l.map strRow)) []:=by
 refine fi55.op ?_
 (refine Sg.h ?_;try repeat' ((with_reducible first|refine brA ?_|refine brE fun _=>?_|refine spl ⟨?_,?_⟩<;>intro _)<;>((try simp -implicitDefEqProofs(disch:=first|assumption|(try simp only[lens]);omega -splitDisjunctions)))))
def stK (N : Int) (F : List Fn) (P : List Pd) (L : Ev) (b : Bool) : Store:=[.rows 1 [[.imap (mapI L)]],.rows 1 [[.bool b]],.rows 1 [[.iptr [.int .i64 N,.imap (funM F),.imap (predM P)]]],.rows 1 [[.fn (.func 52) [] [.ptr 0 0 0,.ptr 1 0 0,.ptr 2 0 0,.ptr 3 0 0]]]]
attribute [simp] stK
@[simp] theorem rg4 : List.range 4 = [0,1,2,3]:=rfl
section
variable {C : WC} {f : Operand} {args : Array Operand} {d : Option Tmp} {fid : FuncId} {vs : List PV} {e : AE} {rest : Store} {N : Int} {F : List Fn} {P : List Pd} {L : Ev} {b b' : Bool} {K : KS} {ops : List LOp}
theorem liveK : liveS [0,1,2,3] (stK N F P L b ++ rest) [0,1,2,3] = stK N F P L b:=by simp [liveS]
theorem cl_kn [EnT C.P fid] {v : PV} (hc : CallOK C.P fid vs (stK N F P L b) v (stK N F P L b')) (hk : O C .pl ops (updA e d (upN [0,1,2,3] 4 v)) (backS [0,1,2,3] (stK N F P L b ++ rest) (stK N F P L b')) K) (hv : vs.map (renN [0,1,2,3] 4) = vs:=by simp) : CL C f args d (some (fid,vs)) ops e (stK N F P L b ++ rest) K:=by
 refine CL.sub [0,1,2,3] (s2:=stK N F P L b') (v:=v) (by rw [hv,liveK];exact hc) ?_
 exact hk
end
def x52_L0 : XC:=.seq (.reg [⟨some 60,.binOp .lss 3 (.tmp 59) (.tmp 58) 3,none⟩]) (.seq (.cond (.tmp 60) .skip (.exit 0)) (.seq (.block 1 (.seq (.reg [⟨some 61,.indexAddr 26 (.tmp 57) (.tmp 59),none⟩,⟨some 62,.load 31 (.tmp 61),none⟩,⟨some 13,.alloc 31,none⟩,⟨none,.store 31 (.tmp 13) (.tmp 62),none⟩]) (.reg [⟨some 63,.load 96 (.tmp 5),none⟩,⟨some 64,.load 31 (.tmp 13),none⟩,⟨some 65,.move (.tmp 1),none⟩,⟨some 66,.call ⟨.value (.tmp 63),#[.tmp 64,.tmp 65],#[31,32]⟩,none⟩]))) (.reg [⟨some 67,.binOp .add 3 (.tmp 59) (.const (.int .i64 1)) 3,none⟩,⟨some 59,.move (.tmp 67),none⟩])))
def x52 : XC:=.seq (.reg [⟨some 6,.box 31 (.tmp 0),none⟩]) (.seq (.seq (.reg [⟨some 14,.fieldAddr 31 (.tmp 6) 0,none⟩,⟨some 15,.load 9 (.tmp 14),none⟩,⟨some 16,.call ⟨.value (.func 24),#[.tmp 15],#[9]⟩,none⟩]) (.cond (.tmp 16) (.seq (.reg [⟨some 18,.load 67 (.tmp 2),none⟩,⟨some 19,.fieldAddr 31 (.tmp 6) 0,none⟩,⟨some 20,.load 9 (.tmp 19),none⟩,⟨some 21,.lookup 67 (.tmp 18) (.tmp 20) true,none⟩,⟨some 17,.move (.tmp 21),none⟩,⟨some 22,.extract (.tmp 17) 0,none⟩,⟨some 23,.extract (.tmp 17) 1,none⟩,⟨some 8,.assign (.tmp 22),none⟩,⟨some 9,.assign (.tmp 23),none⟩]) (.seq (.reg [⟨some 24,.load 4 (.tmp 3),none⟩,⟨some 25,.move (.tmp 24),none⟩,⟨some 26,.move (.tmp 9),some (some 25,true)⟩,⟨some 27,.move (.tmp 26),some (some 25,true)⟩,⟨some 28,.move (.tmp 1),some (some 27,false)⟩,⟨some 29,.fieldAddr 31 (.tmp 6) 0,some (some 27,false)⟩,⟨some 30,.load 9 (.tmp 29),some (some 27,false)⟩,⟨some 31,.call ⟨.value (.func 53),#[.tmp 28,.tmp 30],#[32,9]⟩,some (some 27,false)⟩,⟨some 32,.pick (.tmp 27) (.const (.bool true)) (.tmp 31),some (some 25,true)⟩,⟨some 33,.pick (.tmp 25) (.tmp 32) (.const (.bool false)),none⟩,⟨none,.store 4 (.tmp 3) (.tmp 33),none⟩]) .ret)) .skip)) (.seq (.drawn 4 [⟨some 35,.load 68 (.tmp 4),none⟩,⟨some 36,.nilCheck (.tmp 35),none⟩,⟨some 37,.fieldAddr 95 (.tmp 36) 1,none⟩,⟨some 38,.load 92 (.tmp 37),none⟩,⟨some 39,.fieldAddr 31 (.tmp 6) 0,none⟩,⟨some 40,.load 9 (.tmp 39),none⟩,⟨some 41,.lookup 92 (.tmp 38) (.tmp 40) true,none⟩,⟨some 34,.move (.tmp 41),none⟩,⟨some 42,.extract (.tmp 34) 0,none⟩,⟨some 43,.extract (.tmp 34) 1,none⟩,⟨some 10,.alloc 57,none⟩,⟨none,.store 57 (.tmp 10) (.tmp 42),none⟩,⟨some 11,.assign (.tmp 43),none⟩]) (.seq (.reg [⟨some 44,.load 4 (.tmp 3),none⟩,⟨some 45,.move (.tmp 44),none⟩,⟨some 46,.move (.tmp 11),some (some 45,true)⟩,⟨some 47,.pick (.tmp 45) (.tmp 46) (.const (.bool false)),none⟩,⟨some 48,.move (.tmp 47),none⟩,⟨some 49,.fieldAddr 57 (.tmp 10) 1,some (some 48,true)⟩,⟨some 50,.load 3 (.tmp 49),some (some 48,true)⟩,⟨some 51,.fieldAddr 31 (.tmp 6) 1,some (some 48,true)⟩,⟨some 52,.load 26 (.tmp 51),some (some 48,true)⟩,⟨some 53,.call ⟨.builtin .len,#[.tmp 52],#[26]⟩,some (some 48,true)⟩,⟨some 54,.binOp .eql 3 (.tmp 50) (.tmp 53) 3,some (some 48,true)⟩,⟨some 55,.pick (.tmp 48) (.tmp 54) (.const (.bool false)),none⟩,⟨none,.store 4 (.tmp 3) (.tmp 55),none⟩]) (.seq (.reg [⟨some 56,.fieldAddr 31 (.tmp 6) 1,none⟩,⟨some 57,.load 26 (.tmp 56),none⟩,⟨some 58,.call ⟨.builtin .len,#[.tmp 57],#[26]⟩,none⟩,⟨some 59,.move (.const (.int .i64 0)),none⟩]) (.bloop 0 x52_L0)))))
@[simp] theorem x52_s {C e s K} : type_of% (@X_at C e s K _ _ x52_L0.eq_1) ∧ type_of% (@X_at C e s K _ _ x52.eq_1):=⟨X_at x52_L0.eq_1,X_at x52.eq_1⟩
def an52 : Ann:=⟨[(4,.mix3 11 9)],[(0,[],[1,5,57,58,59],[])],[]⟩
@[simp] theorem an52_a : an52.clsOf 4 = .mix3 11 9 ∧ an52.frzOf 4 = [] ∧ an52.loopOf 0 = ([],[1,5,57,58,59],[]):=⟨rfl,rfl,rfl⟩
theorem fi52 : FI Try.prog 52 (cxA an52) x52 [] Try.f52:=fiA Try.func52 mixed
theorem known1_world (N : Int) (F : List Fn) (P : List Pd) (L : Ev) (B : List ByteArray) (hB : B.length ≤ 1000000) (w : Wd) : ∀ b : Bool,CallOK Try.prog 52 [.agg (wrd w),.list (B.map strRow),.ptr 0 0 0,.ptr 1 0 0,.ptr 2 0 0,.ptr 3 0 0] (stK N F P L b) (.tuple []) (stK N F P L (b && kwF F L B w)):=by
 induction w using Wd.ind with
 | h w ih=>
  intro b
  have hnm:=isName_formula w.nm []
  have hco:=Contains_strs B hB w.nm
  rw [kwF_eq]
  cases hn : isNameB w.nm with
  | true=>
   rw [hn] at hnm
   rw [if_pos rfl]
   generalize (B.any fun y=>decide (w.nm = y)) = c at *
   obtain ⟨f1,f2⟩:=findP_int w.nm L 0
   refine fi52.og ?_
   cases hl : lookI w.nm L with
   | none=>
    have f1:=f1 hl
    cases b with
    | true=>(refine Sg.h ?_;try repeat' ((first|(with_reducible first|refine brA ?_|refine brE fun _=>?_|refine spl ⟨?_,?_⟩<;>intro _)|refine clo hnm ?_|refine clo hco ?_)<;>((try simp -implicitDefEqProofs(disch:=first|assumption|(try simp only[lens]);omega -splitDisjunctions) [f1]))))
    | false=>(refine Sg.h ?_;try repeat' ((first|(with_reducible first|refine brA ?_|refine brE fun _=>?_|refine spl ⟨?_,?_⟩<;>intro _)|refine clo hnm ?_|refine clo hco ?_)<;>((try simp -implicitDefEqProofs(disch:=first|assumption|(try simp only[lens]);omega -splitDisjunctions) [f1]))))
   | some m=>
    obtain ⟨j,f3,f4⟩:=f2 m hl
    cases b with
    | true=>(refine Sg.h ?_;try repeat' ((first|(with_reducible first|refine brA ?_|refine brE fun _=>?_|refine spl ⟨?_,?_⟩<;>intro _)|refine clo hnm ?_|refine clo hco ?_)<;>((try simp -implicitDefEqProofs(disch:=first|assumption|(try simp only[lens]);omega -splitDisjunctions) [f3]))))
    | false=>(refine Sg.h ?_;try repeat' ((first|(with_reducible first|refine brA ?_|refine brE fun _=>?_|refine spl ⟨?_,?_⟩<;>intro _)|refine clo hnm ?_|refine clo hco ?_)<;>((try simp -implicitDefEqProofs(disch:=first|assumption|(try simp only[lens]);omega -splitDisjunctions) [f3]))))
  | false=>
   rw [hn] at hnm
   rw [if_neg (by simp)]
   -- the words inside
   have key : ∀ b1 R,(b1 && kwsF F L B w.args) = R → w.args.length ≤ maxLen → W (cxA an52 Try.prog 4) 0 x52_L0 (KS.fin [] (gcFin 4 (PV.tuple []) (stK N F P L R))) [(1,.list (B.map strRow)),(5,.ptr 3 0 0),(57,.list (w.args.map wrd)),(58,.int .i64 (w.args.length : Int)),(59,.int .i64 0)] (stK N F P L b1):=by
    intro b1 R hR hlen
    have hlen2 : w.args.length ≤ 9223372036854775807:=hlen
    refine W_of fun Q hQ=>?_
    have main : ∀ n i b2,i + n = w.args.length → (b2 && kwsF F L B (w.args.drop i)) = R → Q [(1,.list (B.map strRow)),(5,.ptr 3 0 0),(57,.list (w.args.map wrd)),(58,.int .i64 (w.args.length : Int)),(59,.int .i64 (i : Int))] (stK N F P L b2):=by
     intro n
     induction n with
     | zero=>
      intro i b2 hi hR
      rw [List.drop_of_length_le (by omega),kwsF,Bool.and_true] at hR
      subst hR
      obtain rfl : i = w.args.length:=by omega
      apply hQ
      clear hQ
      (refine Sg.h ?_;try repeat' ((with_reducible first|refine brA ?_|refine brE fun _=>?_|refine spl ⟨?_,?_⟩<;>intro _)<;>((try simp -implicitDefEqProofs(disch:=first|assumption|(try simp only[lens]);omega -splitDisjunctions)))))
     | succ n ihn=>
      intro i b2 hi hR
      have hil : i < w.args.length:=by omega
      rw [List.drop_eq_getElem_cons hil,kwsF,← Bool.and_assoc] at hR
      have hc:=ih _ (List.getElem_mem hil) b2
      have ihn:=ihn (i + 1) _ (by omega) hR
      generalize hx : w.args[i] = x at *
      generalize (b2 && kwF F L B x) = b3 at *
      have hi' : (i : Int) < (w.args.length : Int):=by omega
      apply hQ
      clear hQ
      (refine Sg.h ?_;try repeat' ((with_reducible first|refine brA ?_|refine brE fun _=>?_|refine spl ⟨?_,?_⟩<;>intro _)<;>((try simp -implicitDefEqProofs(disch:=first|assumption|(try simp only[lens]);omega -splitDisjunctions) [hi',hil,hx]))))
      refine cl_kn (rest:=[_]) hc ?_
      (refine Sg.h ?_;try repeat' ((with_reducible first|refine brA ?_|refine brE fun _=>?_|refine spl ⟨?_,?_⟩<;>intro _)<;>((try simp -implicitDefEqProofs(disch:=first|assumption|(try simp only[lens]);omega -splitDisjunctions)))))
      all_goals first|exact ihn|(refine at2 ihn ?_ ?_<;>simp;done)|(exfalso;first|omega|(simp_all;done)|(simp_all;omega))
    all_goals first|exact main w.args.length 0 b1 (Nat.zero_add _) hR|(refine at2 main w.args.length 0 b1 (Nat.zero_add _) hR ?_ ?_<;>simp;done)|(exfalso;first|omega|(simp_all;done)|(simp_all;omega))
   obtain ⟨f1,f2⟩:=find_funM w.nm F 0
   obtain ⟨c,hc⟩ : ∃ c,(funAt w.nm F).any (fun f=>decide (f.ar = (w.args.length : Int))) = c:=⟨_,rfl⟩
   rw [hc]
   refine fi52.og ?_
   cases hl : funAt w.nm F with
   | none=>
    have f1:=f1 hl
    rw [hl] at hc
    obtain rfl : c = false:=by rw [← hc];rfl
    cases b with
    | true=>
     (refine Sg.h ?_;try repeat' ((first|(with_reducible first|refine brA ?_|refine brE fun _=>?_|refine spl ⟨?_,?_⟩<;>intro _)|refine clo hnm ?_)<;>((try simp -implicitDefEqProofs(disch:=first|assumption|(try simp only[lens]);omega -splitDisjunctions) [f1]))))
     rw [LO_some]
     refine ⟨fun hlen=>?_,fun hlen=>?_⟩
     all_goals (refine Sg.h ?_;try repeat' ((with_reducible first|refine brA ?_|refine brE fun _=>?_|refine spl ⟨?_,?_⟩<;>intro _)<;>((try simp -implicitDefEqProofs(disch:=first|assumption|(try simp only[lens]);omega -splitDisjunctions)))))
     all_goals exact key _ _ (by simp) hlen
    | false=>
     (refine Sg.h ?_;try repeat' ((first|(with_reducible first|refine brA ?_|refine brE fun _=>?_|refine spl ⟨?_,?_⟩<;>intro _)|refine clo hnm ?_)<;>((try simp -implicitDefEqProofs(disch:=first|assumption|(try simp only[lens]);omega -splitDisjunctions) [f1]))))
     rw [LO_some]
     refine ⟨fun hlen=>?_,fun hlen=>?_⟩
     all_goals (refine Sg.h ?_;try repeat' ((with_reducible first|refine brA ?_|refine brE fun _=>?_|refine spl ⟨?_,?_⟩<;>intro _)<;>((try simp -implicitDefEqProofs(disch:=first|assumption|(try simp only[lens]);omega -splitDisjunctions)))))
     all_goals exact key _ _ (by simp) hlen
   | some m=>
    obtain ⟨j,f3,f4⟩:=f2 m hl
    rw [hl] at hc
    have hc : decide (m.ar = (w.args.length : Int)) = c:=by rw [← hc];rfl
    cases b with
    | true=>
     by_cases har : m.ar = (w.args.length : Int)
     ·obtain rfl : c = true := by rw [← hc]; exact decide_eq_true har
      (refine Sg.h ?_;try repeat' ((first|(with_reducible first|refine brA ?_|refine brE fun _=>?_|refine spl ⟨?_,?_⟩<;>intro _)|refine clo hnm ?_)<;>((try simp -implicitDefEqProofs(disch:=first|assumption|(try simp only[lens]);omega -splitDisjunctions) [f3]))))
      rw [LO_some]
      refine ⟨fun hlen=>?_,fun hlen=>?_⟩
      all_goals (refine Sg.h ?_;try repeat' ((with_reducible first|refine brA ?_|refine brE fun _=>?_|refine spl ⟨?_,?_⟩<;>intro _)<;>((try simp -implicitDefEqProofs(disch:=first|assumption|(try simp only[lens]);omega -splitDisjunctions) [har]))))
      all_goals exact key _ _ (by simp) hlen
     ·obtain rfl : c = false := by rw [← hc]; exact decide_eq_false har
      (refine Sg.h ?_;try repeat' ((first|(with_reducible first|refine brA ?_|refine brE fun _=>?_|refine spl ⟨?_,?_⟩<;>intro _)|refine clo hnm ?_)<;>((try simp -implicitDefEqProofs(disch:=first|assumption|(try simp only[lens]);omega -splitDisjunctions) [f3]))))
      rw [LO_some]
      refine ⟨fun hlen=>?_,fun hlen=>?_⟩
      all_goals (refine Sg.h ?_;try repeat' ((with_reducible first|refine brA ?_|refine brE fun _=>?_|refine spl ⟨?_,?_⟩<;>intro _)<;>((try simp -implicitDefEqProofs(disch:=first|assumption|(try simp only[lens]);omega -splitDisjunctions) [har]))))
      all_goals exact key _ _ (by simp) hlen
    | false=>
     (refine Sg.h ?_;try repeat' ((first|(with_reducible first|refine brA ?_|refine brE fun _=>?_|refine spl ⟨?_,?_⟩<;>intro _)|refine clo hnm ?_)<;>((try simp -implicitDefEqProofs(disch:=first|assumption|(try simp only[lens]);omega -splitDisjunctions) [f3]))))
     rw [LO_some]
     refine ⟨fun hlen=>?_,fun hlen=>?_⟩
     all_goals (refine Sg.h ?_;try repeat' ((with_reducible first|refine brA ?_|refine brE fun _=>?_|refine spl ⟨?_,?_⟩<;>intro _)<;>((try simp -implicitDefEqProofs(disch:=first|assumption|(try simp only[lens]);omega -splitDisjunctions)))))
     all_goals exact key _ _ (by simp) hlen
end Go.Proofs.Ytbimioonhfhflaa
