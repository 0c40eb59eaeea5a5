import Derived.Test.YtbimioonhfhflaaDMnV
import Derived.Test.YtbimioonhfhflaaDFaO
import Derived.Test.YtbimioonhfhflaaDFbA
set_option linter.unusedVariables false
set_option linter.unusedSimpArgs false
set_option maxRecDepth 100000
set_option maxHeartbeats 4000000
namespace Go.Proofs.Ytbimioonhfhflaa
open Go Go.Pv
def wX : Wd:=.mk ⟨#[120]⟩ []
def wY : Wd:=.mk ⟨#[121]⟩ []
def sameX : Ex:=.mk 9 ⟨#[120]⟩ [] [.mk 9 ⟨#[121]⟩ [] [.mk 2 ⟨#[]⟩ [wX,wY] []]]
theorem callOK_softR {P : Program} {f : FuncId} {args : List PV} {v v' : PV} {s s' : Store} (h : CallOK P f args s v' s') (hs : Soft v v') : CallOK P f args s v s':=by
 intro pub σ w cargs hb ha
 refine (h pub σ w cargs hb ha).mono ?_
 rintro e w' ⟨cv,pub',σ',rfl,h1,h2⟩
 exact ⟨cv,pub',σ',rfl,h1,hs.rel h2⟩
def rawX : PV:=.agg [.int .i64 9,.str ⟨#[120]⟩,.nilsl,.list [[.int .i64 9,.str ⟨#[121]⟩,.nilsl,.list [[.int .i64 2,.str ⟨#[]⟩,.list [[.str ⟨#[120]⟩,.nilsl],[.str ⟨#[121]⟩,.nilsl]],.nilsl]]]]]
attribute [local irreducible] X
def x18 : XC:=.seq (.reg [⟨some 0,.alloc 29,none⟩]) (.seq (.reg [⟨some 2,.build 31 #[(0,.const (.string ⟨#[120]⟩))],none⟩,⟨some 3,.build 31 #[(0,.const (.string ⟨#[121]⟩))],none⟩,⟨some 4,.buildSlice 26 2 #[(0,.tmp 2),(1,.tmp 3)],none⟩,⟨some 1,.assign (.tmp 4),none⟩]) (.seq (.reg [⟨some 5,.move (.tmp 1),none⟩,⟨some 6,.build 29 #[(0,.const (.int .i64 2)),(2,.tmp 5)],none⟩,⟨some 7,.buildSlice 27 1 #[(0,.tmp 6)],none⟩,⟨some 8,.build 29 #[(0,.const (.int .i64 9)),(1,.const (.string ⟨#[121]⟩)),(3,.tmp 7)],none⟩,⟨some 9,.buildSlice 27 1 #[(0,.tmp 8)],none⟩,⟨some 10,.build 29 #[(0,.const (.int .i64 9)),(1,.const (.string ⟨#[120]⟩)),(3,.tmp 9)],none⟩,⟨none,.store 29 (.tmp 0) (.tmp 10),none⟩]) .ret))
@[simp] theorem x18_s {C e s K} : type_of% (@X_at C e s K _ _ x18.eq_1):=X_at x18.eq_1
def an18 : Ann:=⟨[],[],[]⟩
theorem fi18 : FI Try.prog 18 (cxA an18) x18 [.cell 0 29] Try.f18:=fiA Try.func18 mixed
theorem sameThings_raw : CallOK Try.prog 18 [] [] rawX []:=by
 unfold rawX
 refine fi18.op ?_
 (refine Sg.h ?_;try repeat' ((with_reducible first|refine brA ?_|refine brE fun _=>?_|refine spl ⟨?_,?_⟩<;>intro _)<;>((try simp -implicitDefEqProofs);(try simp -implicitDefEqProofs(disch:=first|assumption|(try simp only[lens]);omega -splitDisjunctions)))))
theorem sameThings_law : CallOK Try.prog 18 [] [] (.agg (exr sameX)) []:=by
 have e : exr sameX = [.int .i64 9,.str ⟨#[120]⟩,.list [],.list [[.int .i64 9,.str ⟨#[121]⟩,.list [],.list [[.int .i64 2,.str ⟨#[]⟩,.list [[.str ⟨#[120]⟩,.list []],[.str ⟨#[121]⟩,.list []]],.list []]]]]]:=by
  simp [sameX,wX,wY,exr,exrs,wrd,wrds]
 rw [e]
 refine callOK_softR sameThings_raw ?_
 unfold rawX
 exact .agg (.cons .refl (.cons .refl (.cons .nil (.cons (.list (.cons (.cons .refl (.cons .refl (.cons .nil (.cons (.list (.cons (.cons .refl (.cons .refl (.cons (.list (.cons (.cons .refl (.cons .nil .nil)) (.cons (.cons .refl (.cons .nil .nil)) .nil))) (.cons .nil .nil)))) .nil)) .nil)))) .nil)) .nil))))
set_option maxRecDepth 100000
theorem begun1 : valF ⟨1,[],[]⟩ sameX [] [] = (0,0) ∧ valB ⟨1,[],[]⟩ sameX [] [] = true:=⟨by kernel_rfl,by kernel_rfl⟩
theorem begun2 : valF ⟨2,[],[]⟩ sameX [] [] = (0,0) ∧ valB ⟨2,[],[]⟩ sameX [] [] = false:=⟨by kernel_rfl,by kernel_rfl⟩
def x5 : XC:=.seq (.reg [⟨some 0,.assign (.const (.bool false)),none⟩]) (.seq (.reg [⟨some 6,.build 25 #[(0,.const (.int .i64 1))],none⟩,⟨some 7,.call ⟨.value (.func 18),#[],#[]⟩,none⟩,⟨some 8,.call ⟨.value (.func 12),#[.tmp 6,.tmp 7,.const (.slice none 0 0),.const (.slice none 0 0)],#[25,29,32,33]⟩,none⟩,⟨some 5,.move (.tmp 8),none⟩,⟨some 9,.extract (.tmp 5) 0,none⟩,⟨some 10,.extract (.tmp 5) 1,none⟩,⟨some 2,.alloc 39,none⟩,⟨some 1,.assign (.tmp 9),none⟩,⟨none,.store 39 (.tmp 2) (.tmp 10),none⟩]) (.seq (.reg [⟨some 12,.build 25 #[(0,.const (.int .i64 2))],none⟩,⟨some 13,.call ⟨.value (.func 18),#[],#[]⟩,none⟩,⟨some 14,.call ⟨.value (.func 12),#[.tmp 12,.tmp 13,.const (.slice none 0 0),.const (.slice none 0 0)],#[25,29,32,33]⟩,none⟩,⟨some 11,.move (.tmp 14),none⟩,⟨some 15,.extract (.tmp 11) 0,none⟩,⟨some 16,.extract (.tmp 11) 1,none⟩,⟨some 4,.alloc 39,none⟩,⟨some 3,.assign (.tmp 15),none⟩,⟨none,.store 39 (.tmp 4) (.tmp 16),none⟩]) (.seq (.reg [⟨some 17,.fieldAddr 39 (.tmp 2) 0,none⟩,⟨some 18,.load 3 (.tmp 17),none⟩,⟨some 19,.binOp .eql 3 (.tmp 18) (.const (.int .i64 0)) 3,none⟩,⟨some 20,.move (.tmp 19),none⟩,⟨some 21,.fieldAddr 39 (.tmp 4) 0,some (some 20,true)⟩,⟨some 22,.load 3 (.tmp 21),some (some 20,true)⟩,⟨some 23,.binOp .eql 3 (.tmp 22) (.const (.int .i64 0)) 3,some (some 20,true)⟩,⟨some 24,.pick (.tmp 20) (.tmp 23) (.const (.bool false)),none⟩,⟨some 25,.move (.tmp 24),none⟩,⟨some 26,.move (.tmp 1),some (some 25,true)⟩,⟨some 27,.pick (.tmp 25) (.tmp 26) (.const (.bool false)),none⟩,⟨some 28,.move (.tmp 27),none⟩,⟨some 29,.move (.tmp 3),some (some 28,true)⟩,⟨some 30,.unOp .not 4 (.tmp 29),some (some 28,true)⟩,⟨some 31,.pick (.tmp 28) (.tmp 30) (.const (.bool false)),none⟩,⟨some 0,.assign (.tmp 31),none⟩]) .ret)))
@[simp] theorem x5_s {C e s K} : type_of% (@X_at C e s K _ _ x5.eq_1):=X_at x5.eq_1
def an5 : Ann:=⟨[],[],[]⟩
theorem fi5 : FI Try.prog 5 (cxA an5) x5 [.tmp 0] Try.f5:=fiA Try.func5 mixed
theorem meaningBegun_law : CallOK Try.prog 5 [] [] (.bool true) []:=by
 have h0:=sameThings_law
 have h1:=Value_meaning ⟨1,[],[]⟩ sameX [] []
 have h2:=Value_meaning ⟨2,[],[]⟩ sameX [] []
 rw [begun1.1,begun1.2] at h1
 rw [begun2.1,begun2.2] at h2
 have h1:=callOK_softA (args:=[.agg [.int .i64 1,.nilsl,.nilsl],.agg (exr sameX),.nilsl,.nilsl]) h1 (.cons (.agg (.cons .refl (.cons .nil (.cons .nil .nil)))) (.cons .refl (.cons .nil (.cons .nil .nil))))
 have h2:=callOK_softA (args:=[.agg [.int .i64 2,.nilsl,.nilsl],.agg (exr sameX),.nilsl,.nilsl]) h2 (.cons (.agg (.cons .refl (.cons .nil (.cons .nil .nil)))) (.cons .refl (.cons .nil (.cons .nil .nil))))
 generalize sameX = q at *
 refine fi5.op ?_
 (refine Sg.h ?_;try repeat' ((first|(with_reducible first|refine brA ?_|refine brE fun _=>?_|refine spl ⟨?_,?_⟩<;>intro _)|refine clo h0 ?_|refine clo h1 ?_|refine clo h2 ?_)<;>((try simp -implicitDefEqProofs);(try simp -implicitDefEqProofs(disch:=first|assumption|(try simp only[lens]);omega -splitDisjunctions)))))
end Go.Proofs.Ytbimioonhfhflaa
namespace Go.Proofs.Ytbimioonhfhflaa
open Go Go.Pv
theorem valF_iff {S : Stc} {e : Ex} {ns : List ByteArray} {vs : List Int} : (valF S e ns vs).1 = 0 ↔ ((stcF S).1 = 0 ∧ (checkX e).1 = 0 ∧ ns.length = vs.length ∧ ns.length ≤ 20 ∧ (namF S.n ns vs 0).1 = 0 ∧ exK S.funs S.preds [] e ns = true ∧ hugeF S.n (deepF e) = false):=by
 constructor
 ·intro h
  obtain ⟨a,b,c,d,e,f,g,_⟩:=valF_zero h
  exact ⟨a,b,c,d,e,f,g⟩
 ·rintro ⟨a,b,c,d,e,f,g⟩
  unfold valF
  rw [if_neg (fun h=>h a),if_neg (fun h=>h b),if_neg (by omega),if_neg (fun h=>h e),if_neg (by simp [f]),if_neg (by simp [g])]
end Go.Proofs.Ytbimioonhfhflaa
namespace Go.Proofs.Ytbimioonhfhflaa
open Go Go.Pv
theorem lookW_in {L : Mw} {y : ByteArray} : ∀ {l : List ByteArray},y ∈ l → lookW y (nowL L l) = lookW y L
 | [],h=>by cases h
 | n :: r,h=>by
  rw [nowL]
  by_cases hy : y = n
  ·subst hy
   cases hl : lookW y L with
   | some w=>dsimp only;rw [lookW,if_pos rfl]
   | none=>
    dsimp only
    by_cases hr : y ∈ r
    ·rw [lookW_in hr,hl]
    ·have : ∀ l : List ByteArray,y ∉ l → lookW y (nowL L l) = none := by
      intro l
      induction l with
      | nil=>intro _;rfl
      | cons m q ih=>
       intro hm
       rw [List.mem_cons,not_or] at hm
       rw [nowL]
       cases lookW m L with
       | some v=>dsimp only;rw [lookW,if_neg hm.1,ih hm.2]
       | none=>exact ih hm.2
     exact this r hr
  ·have hr : y ∈ r := (List.mem_cons.1 h).resolve_left hy
   cases hl : lookW n L with
   | some w=>dsimp only;rw [lookW,if_neg hy,lookW_in hr]
   | none=>exact lookW_in hr
theorem lookW_out {L : Mw} {y : ByteArray} : ∀ {l : List ByteArray},y ∉ l → lookW y (nowL L l) = none
 | [],_=>rfl
 | m :: q,hm=>by
  rw [List.mem_cons,not_or] at hm
  rw [nowL]
  cases lookW m L with
  | some v=>dsimp only;rw [lookW,if_neg hm.1,lookW_out hm.2]
  | none=>exact lookW_out hm.2
theorem lookW_app {y : ByteArray} : ∀ (A B : Mw),lookW y (A ++ B) = match lookW y A with
  | some w=>some w
  | none=>lookW y B
 | [],B=>rfl
 | p :: r,B=>by
  rw [List.cons_append,lookW,lookW,lookW_app r B]
  split <;> rfl
def envM (N : Int) (F : List Fn) (E : ByteArray → Int) (L : Mw) (y : ByteArray) : Int:=match lookW y L with
 | some w=>wordV N F E w
 | none=>E y
def NamesL (L : Mw) : Prop:=∀ p ∈ L,isNameB p.1 = true
theorem lookW_name {L : Mw} (h : NamesL L) {y : ByteArray} {w : Wd} (hy : lookW y L = some w) : isNameB y = true:=by
 induction L with
 | nil=>cases hy
 | cons p r ih=>
  rw [lookW] at hy
  split at hy
  ·rename_i he;rw [he];exact h p (by simp)
  ·exact ih (fun q hq=>h q (by simp [hq])) hy
theorem place_congr {N : Int} {F : List Fn} {E E' : ByteArray → Int} {g : Wd → Wd} : ∀ {l : List Wd},(∀ w ∈ l,wordV N F E (g w) = wordV N F E' w) → placeV N F E (l.map g) = placeV N F E' l
 | [],_=>rfl
 | w :: r,h=>by
  rw [List.map_cons,placeV,placeV,place_congr (l:=r) fun w hw=>h w (by simp [hw]),h w (by simp)]
theorem word_free {N : Int} {F : List Fn} {E E' : ByteArray → Int} (w : Wd) : (∀ y ∈ varsW w,E y = E' y) → wordV N F E w = wordV N F E' w:=by
 induction w using Wd.ind with
 | h w ih=>
  intro h
  rw [varsW_eq] at h
  rw [wordV_eq,wordV_eq]
  by_cases hn : isNameB w.nm = true
  ·rw [if_pos hn] at h ⊢
   rw [if_pos hn]
   exact h _ (by simp)
  ·rw [if_neg hn] at h ⊢
   rw [if_neg hn]
   have:=place_congr (N:=N) (F:=F) (E:=E) (E':=E') (g:=id) (l:=w.args) fun a ha=>ih a ha fun y hy=>h y (varsWs_mem.2 ⟨a,ha,hy⟩)
   rw [List.map_id] at this
   rw [this]
theorem word_put {N : Int} {F : List Fn} {E : ByteArray → Int} {L : Mw} (hL : NamesL L) (w : Wd) : wordV N F E (putW L w) = wordV N F (envM N F E L) w:=by
 induction w using Wd.ind with
 | h w ih=>
  rw [putW_eq]
  cases hl : lookW w.nm L with
  | some v=>
   have hn:=lookW_name hL hl
   rw [wordV_eq w,if_pos hn,envM,hl]
  | none=>
   dsimp only
   rw [wordV_eq,wordV_eq w]
   simp only [wd_mk]
   rw [place_congr fun a ha=>ih a ha]
   split
   ·rw [envM,hl]
   ·rfl
theorem valH_congr {N : Int} {F : List Fn} {P : List Pd} {k : Int} {nm nm' : ByteArray} {ws ws' : List Wd} {vs vs' : List ((ByteArray → Int) → Bool)} {E E' : ByteArray → Int} (hnm : isQ k = false → nm' = nm) (hw : isQ k = false → placeV N F E' ws' = placeV N F E ws) (hw2 : isQ k = false → ∀ i,i < ws.length → wordV N F E' (ws'.getD i default) = wordV N F E (ws.getD i default)) (hd : k = 2 → ws.length = 2)
  (hv : isQ k = false → ∀ i,(vs'.getD i fun _=>false) E' = (vs.getD i fun _=>false) E) (hq : isQ k = true → ∀ x : Int,(vs'.getD 0 fun _=>false) (updE E' nm' x) = (vs.getD 0 fun _=>false) (updE E nm x)) : valH N F P k nm' ws' vs' E' = valH N F P k nm ws vs E:=by
 unfold valH
 by_cases k1 : k = 1
 ·rw [if_pos k1,if_pos k1,hnm (by simp [isQ,k1]),hw (by simp [isQ,k1])]
 rw [if_neg k1,if_neg k1]
 by_cases k2 : k = 2
 ·have := hd k2
  have hw2:=hw2 (by simp [isQ,k2])
  rw [if_pos k2,if_pos k2,hw2 0 (by omega),hw2 1 (by omega)]
 rw [if_neg k2,if_neg k2]
 cases hQ : isQ k with
 | false=>
  have h9 : ¬ k = 9:=by intro g;simp [isQ,g] at hQ
  have h10 : ¬ k = 10:=by intro g;simp [isQ,g] at hQ
  rw [hv hQ 0,hv hQ 1]
  simp only [if_neg h9,if_neg h10]
 | true=>
  have hq:=hq hQ
  simp only [hq]
  have h3 : ¬ k = 3:=by intro g;simp [isQ,g] at hQ
  have h5 : ¬ k = 5:=by intro g;simp [isQ,g] at hQ
  have h6 : ¬ k = 6:=by intro g;simp [isQ,g] at hQ
  have h7 : ¬ k = 7:=by intro g;simp [isQ,g] at hQ
  have h8 : ¬ k = 8:=by intro g;simp [isQ,g] at hQ
  simp only [if_neg h3,if_neg h5,if_neg h6,if_neg h7,if_neg h8]
mutual
def twoX : Ex → Bool
 | .mk k _ ws l=>(!decide (k = 2) || decide (ws.length = 2)) && twoXs l
def twoXs : List Ex → Bool
 | []=>true
 | e :: r=>twoX e && twoXs r
end
theorem twoXs_all : ∀ l : List Ex,twoXs l = l.all twoX
 | []=>rfl
 | e :: r=>by rw [twoXs,twoXs_all r,List.all_cons]
theorem twoX_eq (e : Ex) : twoX e = ((!decide (e.k = 2) || decide (e.words.length = 2)) && e.kids.all twoX):=by
 cases e with | mk k a w l=>rw [twoX,twoXs_all];rfl
section
variable {sc : List ByteArray → List ByteArray} {fr : ByteArray → List ByteArray → ByteArray}
theorem free_kid (hsc : ∀ l y,y ∈ sc l ↔ y ∈ l) {e q : Ex} (hq : q ∈ e.kids) {y : ByteArray} (hy : y ∈ freeX sc q) (hn : isQ e.k = true → y ≠ e.nm) : y ∈ freeX sc e:=by
 rw [freeX_eq,hsc]
 have : y ∈ varsWs e.words ++ freeXs sc e.kids:=List.mem_append.2 (.inr ((freeXs_mem sc).2 ⟨q,hq,hy⟩))
 split
 ·rename_i hQ
  rw [List.mem_filter]
  exact ⟨this,by simpa using hn hQ⟩
 ·exact this
theorem free_word (hsc : ∀ l y,y ∈ sc l ↔ y ∈ l) {e : Ex} {w : Wd} (hw : w ∈ e.words) {y : ByteArray} (hy : y ∈ varsW w) (hn : isQ e.k = true → y ≠ e.nm) : y ∈ freeX sc e:=by
 rw [freeX_eq,hsc]
 have : y ∈ varsWs e.words ++ freeXs sc e.kids:=List.mem_append.2 (.inl (varsWs_mem.2 ⟨w,hw,hy⟩))
 split
 ·rename_i hQ
  rw [List.mem_filter]
  exact ⟨this,by simpa using hn hQ⟩
 ·exact this
theorem getD_map {α β : Type} (g : α → β) (l : List α) (i : Nat) (d : β) : (l.map g).getD i d = match l[i]? with
  | some x=>g x
  | none=>d:=by
 rw [List.getD_eq_getElem?_getD,List.getElem?_map]
 cases l[i]? <;> rfl
theorem getD_same {g g' : Ex → (ByteArray → Int) → Bool} {m : Ex → Ex} {l : List Ex} {i : Nat} {E E' : ByteArray → Int} (h : ∀ q ∈ l,g' (m q) E' = g q E) : (((l.map m).map g').getD i fun _=>false) E' = ((l.map g).getD i fun _=>false) E:=by
 rw [List.map_map,getD_map,getD_map]
 cases hl : l[i]? with
 | none=>rfl
 | some q=>exact h q (List.mem_of_getElem? hl)
theorem words_same {N : Int} {F : List Fn} {E E' : ByteArray → Int} {g : Wd → Wd} {ws : List Wd} (h : ∀ w ∈ ws,wordV N F E' (g w) = wordV N F E w) : ∀ i,i < ws.length → wordV N F E' ((ws.map g).getD i default) = wordV N F E (ws.getD i default):=by
 intro i hi
 rw [List.getD_eq_getElem?_getD,List.getD_eq_getElem?_getD,List.getElem?_map,List.getElem?_eq_getElem hi]
 exact h _ (List.getElem_mem hi)
theorem twoX_of {e : Ex} (h : twoX e = true) : (e.k = 2 → e.words.length = 2) ∧ ∀ q ∈ e.kids,twoX q = true:=by
 rw [twoX_eq,Bool.and_eq_true,List.all_eq_true] at h
 exact ⟨fun g=>by have:=h.1;simpa [g] using this,h.2⟩
theorem val_free (hsc : ∀ l y,y ∈ sc l ↔ y ∈ l) {N : Int} {F : List Fn} {P : List Pd} (e : Ex) : ∀ E E' : ByteArray → Int,twoX e = true → (∀ y ∈ freeX sc e,E' y = E y) → valV N F P e E' = valV N F P e E:=by
 induction e using Ex.ind with
 | h e ih=>
  intro E E' h2 h
  obtain ⟨h2,hk2⟩:=twoX_of h2
  have hword : isQ e.k = false → ∀ w ∈ e.words,wordV N F E' (id w) = wordV N F E w:=fun hQ w hw=>word_free w fun y hy=>h y (free_word hsc hw hy (fun g=>by rw [hQ] at g;cases g))
  rw [valV_eq]
  refine valH_congr (fun _=>rfl) (fun hQ=>?_) (fun hQ i hi=>?_) h2 (fun hQ i=>?_) fun hQ x=>?_
  ·have:=place_congr (hword hQ);rw [List.map_id] at this;exact this
  ·have:=words_same (hword hQ) i hi;rw [List.map_id] at this;exact this
  ·have := getD_same (g := valV N F P) (g' := valV N F P) (m := id) (l := e.kids) (i := i) (E := E) (E' := E') fun q hq => ih q hq E E' (hk2 q hq) fun y hy => h y (free_kid hsc hq hy (fun g => by rw [hQ] at g; cases g))
   rw [List.map_id] at this;exact this
  ·have := getD_same (g := valV N F P) (g' := valV N F P) (m := id) (l := e.kids) (i := 0) (E := updE E e.nm x) (E' := updE E' e.nm x) fun q hq => ih q hq _ _ (hk2 q hq) fun y hy => by
    unfold updE
    by_cases hn : y = e.nm
    ·rw [if_pos hn,if_pos hn]
    ·rw [if_neg hn,if_neg hn];exact h y (free_kid hsc hq hy fun _=>hn)
   rw [List.map_id] at this;exact this
mutual
def okQ : Ex → Bool
 | .mk k nm _ l=>(!isQ k || isNameB nm) && okQs l
def okQs : List Ex → Bool
 | []=>true
 | e :: r=>okQ e && okQs r
end
theorem okQs_all : ∀ l : List Ex,okQs l = l.all okQ
 | []=>rfl
 | e :: r=>by rw [okQs,okQs_all r,List.all_cons]
theorem okQ_eq (e : Ex) : okQ e = ((!isQ e.k || isNameB e.nm) && e.kids.all okQ):=by
 cases e with | mk k a w l=>rw [okQ,okQs_all];rfl
theorem now_names {L : Mw} (hL : NamesL L) : ∀ l : List ByteArray,NamesL (nowL L l)
 | []=>fun p hp=>by cases hp
 | n :: r=>by
  intro p hp
  rw [nowL] at hp
  cases hl : lookW n L with
  | some w=>
   rw [hl] at hp
   rcases List.mem_cons.1 hp with rfl | hp
   ·exact lookW_name hL hl
   ·exact now_names hL r p hp
  | none=>rw [hl] at hp;exact now_names hL r p hp
theorem map_names {L : Mw} (hL : NamesL L) {nm : ByteArray} (hn : isNameB nm = true) {free : List ByteArray} : NamesL (mapX fr L nm free):=by
 intro p hp
 unfold mapX at hp
 rcases List.mem_append.1 hp with h | h
 ·exact now_names hL _ p h
 ·split at h
  ·rw [List.mem_singleton] at h;rw [h];exact hn
  ·cases h
theorem val_put (hsc : ∀ l y,y ∈ sc l ↔ y ∈ l) (hfr : ∀ a t,fr a t ∉ t) {N : Int} {F : List Fn} {P : List Pd} (e : Ex) : ∀ (L : Mw) (E : ByteArray → Int),NamesL L → twoX e = true → okQ e = true → okQ (putX sc fr e L) = true → valV N F P (putX sc fr e L) E = valV N F P e (envM N F E L):=by
 induction e using Ex.ind with
 | h e ih=>
  intro L E hL h2 ho hp
  obtain ⟨h2,hk2⟩:=twoX_of h2
  rw [okQ_eq,Bool.and_eq_true,List.all_eq_true] at ho
  rw [putX_eq] at hp ⊢
  have hword : ∀ w ∈ e.words,wordV N F E (putW L w) = wordV N F (envM N F E L) w:=fun w _=>word_put hL w
  cases hQ : isQ e.k with
  | false=>
   rw [hQ,if_neg (by simp)] at hp
   rw [if_neg (by simp)]
   rw [okQ_eq,Bool.and_eq_true,List.all_eq_true] at hp
   simp only [ex_mk] at hp
   rw [valV_eq,valV_eq N F P e]
   simp only [ex_mk]
   refine valH_congr (fun _=>rfl) (fun _=>place_congr hword) (fun _=>words_same hword) h2 (fun _ i=>?_) fun g=>by rw [hQ] at g;cases g
   exact getD_same fun q hq=>ih q hq L E hL (hk2 q hq) (ho.2 q hq) (hp.2 _ (List.mem_map_of_mem hq))
  | true=>
   rw [hQ,if_pos rfl] at hp
   rw [if_pos rfl]
   rw [okQ_eq,Bool.and_eq_true,List.all_eq_true] at hp
   simp only [ex_mk] at hp
   have hn : isNameB e.nm = true:=by have:=ho.1;rw [hQ] at this;simpa using this
   have hn' : isNameB (newNm fr L e.nm (freeX sc e)) = true:=by have:=hp.1;rw [hQ] at this;simpa using this
   have hnot : newNm fr L e.nm (freeX sc e) ∉ (freeX sc e).flatMap (takenX L):=hfr _ _
   have hnf : e.nm ∉ freeX sc e:=by
    rw [freeX_eq,hsc,if_pos hQ,List.mem_filter]
    simp
   rw [valV_eq,valV_eq N F P e]
   simp only [ex_mk]
   refine valH_congr (fun g=>by rw [hQ] at g;cases g) (fun g=>by rw [hQ] at g;cases g) (fun g=>by rw [hQ] at g;cases g) h2 (fun g=>by rw [hQ] at g;cases g) fun _ x=>?_
   refine getD_same fun q hq=>?_
   rw [ih q hq _ _ (map_names hL hn) (hk2 q hq) (ho.2 q hq) (hp.2 _ (List.mem_map_of_mem hq))]
   refine val_free hsc q _ _ (hk2 q hq) fun y hy=>?_
   have hmem : ∀ y ∈ freeX sc e,∀ z ∈ takenX L y,z ≠ newNm fr L e.nm (freeX sc e):=fun y hy z hz g=>hnot (List.mem_flatMap.2 ⟨y,hy,g ▸ hz⟩)
   unfold mapX envM
   rw [lookW_app]
   generalize newNm fr L e.nm (freeX sc e) = nm' at *
   by_cases hyn : y = e.nm
   ·subst hyn
    rw [lookW_out hnf]
    dsimp only
    by_cases hne : nm' = e.nm
    ·rw [if_neg (fun g => g hne)]
     unfold updE
     rw [lookW,if_pos hne.symm,if_pos rfl]
    ·rw [if_pos hne,lookW,if_pos rfl]
     dsimp only
     rw [wordV_eq]
     simp only [wd_mk]
     rw [if_pos hn']
     unfold updE
     rw [if_pos rfl,if_pos rfl]
   ·have hyf := free_kid hsc hq hy fun _ => hyn
    rw [lookW_in hyf]
    have hm:=hmem y hyf
    unfold takenX at hm
    cases hl : lookW y L with
    | some w=>
     rw [hl] at hm
     dsimp only
     rw [word_free (E':=E) w fun z hz=>by unfold updE;rw [if_neg (hm z hz)]]
     unfold updE
     rw [if_neg hyn]
     dsimp only
     rw [hl]
    | none=>
     rw [hl] at hm
     dsimp only
     have : lookW y (if nm' ≠ e.nm then [(e.nm,Wd.mk nm' [])] else []) = none:=by
      split
      ·rw [lookW,if_neg hyn,lookW]
      ·rfl
     rw [this]
     unfold updE
     rw [if_neg hyn]
     dsimp only
     rw [hl,if_neg (hm y (by simp))]
end
end Go.Proofs.Ytbimioonhfhflaa
namespace Go.Proofs.Ytbimioonhfhflaa
open Go Go.Pv
mutual
def okE (F : List Fn) (P : List Pd) : Ex → Bool
 | .mk k nm ws l=>(!decide (k = 1) || (predAt nm P).any (fun p=>decide (p.ar = (ws.length : Int)))) && ws.all (wordOkF F) && okEs F P l
def okEs (F : List Fn) (P : List Pd) : List Ex → Bool
 | []=>true
 | e :: r=>okE F P e && okEs F P r
end
theorem okEs_all {F : List Fn} {P : List Pd} : ∀ l : List Ex,okEs F P l = l.all (okE F P)
 | []=>rfl
 | e :: r=>by rw [okEs,okEs_all r,List.all_cons]
theorem okE_eq {F : List Fn} {P : List Pd} (e : Ex) : okE F P e = ((!decide (e.k = 1) || (predAt e.nm P).any (fun p=>decide (p.ar = (e.words.length : Int)))) && e.words.all (wordOkF F) && e.kids.all (okE F P)):=by
 cases e with | mk k a w l=>rw [okE,okEs_all];rfl
mutual
def noW : Ex → Bool
 | .mk k _ ws l=>(!isQ k || ws.isEmpty) && noWs l
def noWs : List Ex → Bool
 | []=>true
 | e :: r=>noW e && noWs r
end
theorem noWs_all : ∀ l : List Ex,noWs l = l.all noW
 | []=>rfl
 | e :: r=>by rw [noWs,noWs_all r,List.all_cons]
theorem noW_eq (e : Ex) : noW e = ((!isQ e.k || e.words.isEmpty) && e.kids.all noW):=by
 cases e with | mk k a w l=>rw [noW,noWs_all];rfl
def inB (B : List ByteArray) (y : ByteArray) : Prop:=(B.any fun z=>decide (y = z)) = true
theorem inB_iff {B : List ByteArray} {y : ByteArray} : inB B y ↔ y ∈ B:=by
 unfold inB
 rw [List.any_eq_true]
 exact ⟨fun ⟨z,hz,h⟩=>of_decide_eq_true h ▸ hz,fun h=>⟨y,h,decide_eq_true rfl⟩⟩
theorem kwF_iff {F : List Fn} {B : List ByteArray} (w : Wd) : kwF F [] B w = true ↔ wordOkF F w = true ∧ ∀ y ∈ varsW w,y ∈ B:=by
 induction w using Wd.ind with
 | h w ih=>
  rw [kwF_eq,wordOkF_eq,varsW_eq,kwsF_all]
  by_cases hn : isNameB w.nm = true
  ·rw [if_pos hn,if_pos hn,hn,Bool.true_or]
   have : inB B w.nm ↔ w.nm ∈ B:=inB_iff
   unfold inB at this
   simp only [lookI,Option.isSome_none,Bool.false_or,this,true_and,List.mem_singleton]
   exact ⟨fun h y hy=>hy ▸ h,fun h=>h _ rfl⟩
  ·rw [if_neg hn,if_neg hn,Bool.eq_false_iff.2 hn,Bool.false_or,Bool.and_eq_true,Bool.and_eq_true,List.all_eq_true]
   have hws : ∀ l : List Wd,wordsOkF F l = true ↔ ∀ a ∈ l,wordOkF F a = true:=by
    intro l
    induction l with
    | nil=>simp [wordsOkF]
    | cons a r ihr=>rw [wordsOkF,Bool.and_eq_true,ihr];simp
   rw [hws]
   constructor
   ·rintro ⟨h1,h2⟩
    refine ⟨⟨h1,fun a ha=>((ih a ha).1 (h2 a ha)).1⟩,fun y hy=>?_⟩
    obtain ⟨a,ha,hy⟩:=varsWs_mem.1 hy
    exact ((ih a ha).1 (h2 a ha)).2 y hy
   ·rintro ⟨⟨h1,h2⟩,h3⟩
    exact ⟨h1,fun a ha=>(ih a ha).2 ⟨h2 a ha,fun y hy=>h3 y (varsWs_mem.2 ⟨a,ha,hy⟩)⟩⟩
section
variable {sc : List ByteArray → List ByteArray} {fr : ByteArray → List ByteArray → ByteArray}
theorem exK_iff (hsc : ∀ l y,y ∈ sc l ↔ y ∈ l) {F : List Fn} {P : List Pd} (e : Ex) : ∀ B : List ByteArray,noW e = true → (exK F P [] e B = true ↔ okE F P e = true ∧ ∀ y ∈ freeX sc e,y ∈ B):=by
 induction e using Ex.ind with
 | h e ih=>
  intro B hno
  rw [noW_eq,Bool.and_eq_true,List.all_eq_true] at hno
  have ih:=fun q hq B=>ih q hq B (hno.2 q hq)
  rw [exK_eq,okE_eq,Bool.and_eq_true,Bool.and_eq_true,Bool.and_eq_true,Bool.and_eq_true,kwsF_all,exsK_all,List.all_eq_true,List.all_eq_true,List.all_eq_true,List.all_eq_true]
  have hbind : ∀ y,y ∈ bindB e.k e.nm B ↔ y ∈ B ∨ (isQ e.k = true ∧ y = e.nm):=by
   intro y
   unfold bindB isQ
   by_cases hk : e.k = 9 ∨ e.k = 10
   ·rw [if_pos hk,List.mem_append,List.mem_singleton]
    have : (decide (e.k = 9) || decide (e.k = 10)) = true:=by simpa using hk
    rw [this];simp
   ·rw [if_neg hk]
    have : (decide (e.k = 9) || decide (e.k = 10)) = false:=by
     rw [not_or] at hk;simp [hk.1,hk.2]
    rw [this];simp
  constructor
  ·rintro ⟨⟨h1,h2⟩,h3⟩
   refine ⟨⟨⟨h1,fun w hw=>((kwF_iff w).1 (h2 w hw)).1⟩,fun q hq=>((ih q hq _).1 (h3 q hq)).1⟩,fun y hy=>?_⟩
   rw [freeX_eq,hsc] at hy
   have hy2 : y ∈ varsWs e.words ++ freeXs sc e.kids ∧ (isQ e.k = true → y ≠ e.nm):=by
    split at hy
    ·rw [List.mem_filter] at hy;exact ⟨hy.1,fun _=>by simpa using hy.2⟩
    ·rename_i hq;exact ⟨hy,fun g=>absurd g hq⟩
   rcases List.mem_append.1 hy2.1 with h | h
   ·obtain ⟨w,hw,hyw⟩ := varsWs_mem.1 h
    exact ((kwF_iff w).1 (h2 w hw)).2 y hyw
   ·obtain ⟨q,hq,hyq⟩ := (freeXs_mem sc).1 h
    rcases (hbind y).1 (((ih q hq _).1 (h3 q hq)).2 y hyq) with g | ⟨g1,g2⟩
    ·exact g
    ·exact absurd g2 (hy2.2 g1)
  ·rintro ⟨⟨⟨h1,h2⟩,h3⟩,h4⟩
   refine ⟨⟨h1,fun w hw=>(kwF_iff w).2 ⟨h2 w hw,fun y hy=>?_⟩⟩,fun q hq=>(ih q hq _).2 ⟨h3 q hq,fun y hy=>(hbind y).2 ?_⟩⟩
   ·refine h4 y (free_word hsc hw hy fun hQ => ?_)
    have:=hno.1
    rw [hQ,Bool.not_true,Bool.false_or,List.isEmpty_iff] at this
    rw [this] at hw
    cases hw
   ·by_cases hyn : isQ e.k = true ∧ y = e.nm
    ·exact .inr hyn
    ·exact .inl (h4 y (free_kid hsc hq hy fun hQ g=>hyn ⟨hQ,g⟩))
theorem wordOk_put {F : List Fn} {L : Mw} (hL : ∀ p ∈ L,wordOkF F p.2 = true) (hN : NamesL L) (w : Wd) : wordOkF F w = true → wordOkF F (putW L w) = true:=by
 induction w using Wd.ind with
 | h w ih=>
  intro h
  rw [putW_eq]
  cases hl : lookW w.nm L with
  | some v=>
   have : ∀ L : Mw,(∀ p ∈ L,wordOkF F p.2 = true) → lookW w.nm L = some v → wordOkF F v = true:=by
    intro L
    induction L with
    | nil=>intro _ g;cases g
    | cons p r ihr=>
     intro hp g
     rw [lookW] at g
     split at g
     ·cases g;exact hp p (by simp)
     ·exact ihr (fun q hq=>hp q (by simp [hq])) g
   exact this L hL hl
  | none=>
   dsimp only
   rw [wordOkF_eq] at h ⊢
   simp only [wd_mk,List.length_map]
   have hws : ∀ l : List Wd,wordsOkF F l = true ↔ ∀ a ∈ l,wordOkF F a = true:=by
    intro l
    induction l with
    | nil=>simp [wordsOkF]
    | cons a r ihr=>rw [wordsOkF,Bool.and_eq_true,ihr];simp
   rw [Bool.or_eq_true,Bool.and_eq_true,hws] at h ⊢
   refine h.imp id fun g=>⟨g.1,fun a ha=>?_⟩
   obtain ⟨b,hb,rfl⟩:=List.mem_map.1 ha
   exact ih b hb (g.2 b hb)
theorem lookW_mem {L : Mw} {y : ByteArray} {v : Wd} (h : lookW y L = some v) : (y,v) ∈ L:=by
 induction L with
 | nil=>cases h
 | cons p r ih=>
  rw [lookW] at h
  split at h
  ·rename_i he;cases h;rw [he];simp
  ·exact List.mem_cons_of_mem _ (ih h)
theorem now_sub {L : Mw} : ∀ {l : List ByteArray} {p},p ∈ nowL L l → p ∈ L
 | [],p,h=>by cases h
 | n :: r,p,h=>by
  rw [nowL] at h
  cases hl : lookW n L with
  | some w=>
   rw [hl] at h
   rcases List.mem_cons.1 h with rfl | h
   ·exact lookW_mem hl
   ·exact now_sub h
  | none=>rw [hl] at h;exact now_sub h
theorem okE_put (hsc : ∀ l y,y ∈ sc l ↔ y ∈ l) {F : List Fn} {P : List Pd} (e : Ex) : ∀ L : Mw,NamesL L → (∀ p ∈ L,wordOkF F p.2 = true) → okE F P e = true → okQ e = true → okQ (putX sc fr e L) = true → okE F P (putX sc fr e L) = true:=by
 induction e using Ex.ind with
 | h e ih=>
  intro L hN hL ho hq hp
  rw [okE_eq,Bool.and_eq_true,Bool.and_eq_true,List.all_eq_true,List.all_eq_true] at ho
  rw [okQ_eq,Bool.and_eq_true,List.all_eq_true] at hq
  obtain ⟨⟨h1,h2⟩,h3⟩:=ho
  have hw : (e.words.map (putW L)).all (wordOkF F) = true:=by
   rw [List.all_eq_true]
   intro w hw
   obtain ⟨v,hv,rfl⟩:=List.mem_map.1 hw
   exact wordOk_put hL hN v (h2 v hv)
  rw [putX_eq] at hp ⊢
  cases hQ : isQ e.k with
  | false=>
   rw [hQ,if_neg (by simp)] at hp
   rw [if_neg (by simp)]
   rw [okQ_eq,Bool.and_eq_true,List.all_eq_true] at hp
   simp only [ex_mk] at hp
   rw [okE_eq]
   simp only [ex_mk,List.length_map]
   rw [h1,hw,Bool.and_true,Bool.true_and,List.all_eq_true]
   intro q' hq'
   obtain ⟨q,hqm,rfl⟩:=List.mem_map.1 hq'
   exact ih q hqm L hN hL (h3 q hqm) (hq.2 q hqm) (hp.2 _ hq')
  | true=>
   rw [hQ,if_pos rfl] at hp
   rw [if_pos rfl]
   rw [okQ_eq,Bool.and_eq_true,List.all_eq_true] at hp
   simp only [ex_mk] at hp
   have hn : isNameB e.nm = true:=by have:=hq.1;rw [hQ] at this;simpa using this
   have hn' : isNameB (newNm fr L e.nm (freeX sc e)) = true:=by have:=hp.1;rw [hQ] at this;simpa using this
   have hk1 : decide (e.k = 1) = false:=by
    apply decide_eq_false
    intro g
    rw [isQ,g] at hQ
    simp at hQ
   rw [okE_eq]
   simp only [ex_mk,List.length_map]
   rw [hk1,hw,Bool.not_false,Bool.true_or,Bool.and_true,Bool.true_and,List.all_eq_true]
   intro q' hq'
   obtain ⟨q,hqm,rfl⟩:=List.mem_map.1 hq'
   refine ih q hqm _ (map_names hN hn) (fun p hp'=>?_) (h3 q hqm) (hq.2 q hqm) (hp.2 _ hq')
   unfold mapX at hp'
   rcases List.mem_append.1 hp' with g | g
   ·exact hL p (now_sub g)
   ·split at g
    ·rw [List.mem_singleton] at g
     rw [g,wordOkF_eq]
     simp only [wd_mk]
     rw [hn',Bool.true_or]
    ·cases g
theorem vars_put {L : Mw} {y : ByteArray} (w : Wd) (hN : NamesL L) : y ∈ varsW (putW L w) → ∃ z ∈ varsW w,y ∈ takenX L z:=by
 induction w using Wd.ind with
 | h w ih=>
  intro h
  rw [putW_eq] at h
  rw [varsW_eq w]
  cases hl : lookW w.nm L with
  | some v=>
   rw [hl] at h
   rw [if_pos (lookW_name hN hl)]
   exact ⟨w.nm,by simp,by unfold takenX;rw [hl];exact h⟩
  | none=>
   rw [hl] at h
   dsimp only at h
   rw [varsW_eq] at h
   simp only [wd_mk] at h
   split at h
   ·rename_i hn
    rw [if_pos hn]
    exact ⟨w.nm,by simp,by unfold takenX;rw [hl];exact h⟩
   ·rename_i hn
    rw [if_neg hn]
    obtain ⟨a,ha,hy⟩:=varsWs_mem.1 h
    obtain ⟨b,hb,rfl⟩:=List.mem_map.1 ha
    obtain ⟨z,hz,hyz⟩:=ih b hb hy
    exact ⟨z,varsWs_mem.2 ⟨b,hb,hz⟩,hyz⟩
theorem free_put (hsc : ∀ l y,y ∈ sc l ↔ y ∈ l) (hfr : ∀ a t,fr a t ∉ t) {y : ByteArray} (e : Ex) : ∀ L : Mw,NamesL L → noW e = true → okQ e = true → okQ (putX sc fr e L) = true → y ∈ freeX sc (putX sc fr e L) → ∃ z ∈ freeX sc e,y ∈ takenX L z:=by
 induction e using Ex.ind with
 | h e ih=>
  intro L hN hno hq hp hy
  rw [noW_eq,Bool.and_eq_true,List.all_eq_true] at hno
  rw [okQ_eq,Bool.and_eq_true,List.all_eq_true] at hq
  rw [putX_eq] at hp hy
  cases hQ : isQ e.k with
  | false=>
   rw [hQ,if_neg (by simp)] at hp hy
   rw [okQ_eq,Bool.and_eq_true,List.all_eq_true] at hp
   rw [freeX_eq,hsc] at hy
   simp only [ex_mk] at hp hy
   rw [hQ,if_neg (by simp)] at hy
   rcases List.mem_append.1 hy with h | h
   ·obtain ⟨w',hw',hyw⟩ := varsWs_mem.1 h
    obtain ⟨w,hw,rfl⟩:=List.mem_map.1 hw'
    obtain ⟨z,hz,hyz⟩:=vars_put w hN hyw
    exact ⟨z,free_word hsc hw hz (fun g=>by rw [hQ] at g;cases g),hyz⟩
   ·obtain ⟨q',hq',hyq⟩ := (freeXs_mem sc).1 h
    obtain ⟨q,hqm,rfl⟩:=List.mem_map.1 hq'
    obtain ⟨z,hz,hyz⟩:=ih q hqm L hN (hno.2 q hqm) (hq.2 q hqm) (hp.2 _ hq') hyq
    exact ⟨z,free_kid hsc hqm hz (fun g=>by rw [hQ] at g;cases g),hyz⟩
  | true=>
   rw [hQ,if_pos rfl] at hp hy
   rw [okQ_eq,Bool.and_eq_true,List.all_eq_true] at hp
   rw [freeX_eq,hsc] at hy
   simp only [ex_mk] at hp hy
   rw [hQ,if_pos rfl,List.mem_filter] at hy
   have hn : isNameB e.nm = true:=by have:=hq.1;rw [hQ] at this;simpa using this
   have hn' : isNameB (newNm fr L e.nm (freeX sc e)) = true:=by have:=hp.1;rw [hQ] at this;simpa using this
   have hyn : y ≠ newNm fr L e.nm (freeX sc e):=by simpa using hy.2
   have hnf : e.nm ∉ freeX sc e:=by
    rw [freeX_eq,hsc,if_pos hQ,List.mem_filter]
    simp
   have hws : e.words = []:=by
    have:=hno.1
    rw [hQ,Bool.not_true,Bool.false_or,List.isEmpty_iff] at this
    exact this
   rw [hws,List.map_nil,varsWs,List.nil_append] at hy
   obtain ⟨q',hq',hyq⟩:=(freeXs_mem sc).1 hy.1
   obtain ⟨q,hqm,rfl⟩:=List.mem_map.1 hq'
   obtain ⟨z,hz,hyz⟩:=ih q hqm _ (map_names hN hn) (hno.2 q hqm) (hq.2 q hqm) (hp.2 _ hq') hyq
   by_cases hzn : z = e.nm
   ·exfalso
    subst hzn
    unfold takenX mapX at hyz
    rw [lookW_app,lookW_out hnf] at hyz
    dsimp only at hyz
    split at hyz
    ·rename_i w hw
     split at hw
     ·rw [lookW,if_pos rfl] at hw
      cases hw
      rw [varsW_eq] at hyz
      simp only [wd_mk] at hyz
      rw [if_pos hn',List.mem_singleton] at hyz
      exact hyn hyz
     ·cases hw
    ·rename_i hw
     rw [List.mem_singleton] at hyz
     split at hw
     ·rw [lookW,if_pos rfl] at hw;cases hw
     ·rename_i hne
      exact hyn (hyz.trans (Decidable.not_not.1 hne).symm)
   ·have hzf := free_kid hsc hqm hz fun _ => hzn
    refine ⟨z,hzf,?_⟩
    unfold takenX mapX at hyz
    rw [lookW_app,lookW_in hzf] at hyz
    unfold takenX
    cases hl : lookW z L with
    | some w=>rw [hl] at hyz;exact hyz
    | none=>
     rw [hl] at hyz
     dsimp only at hyz
     have : lookW z (if newNm fr L e.nm (freeX sc e) ≠ e.nm then [(e.nm,Wd.mk (newNm fr L e.nm (freeX sc e)) [])] else []) = none:=by
      split
      ·rw [lookW,if_neg hzn,lookW]
      ·rfl
     rw [this] at hyz
     exact hyz
theorem deep_put (e : Ex) : ∀ L : Mw,deepF (putX sc fr e L) = deepF e:=by
 induction e using Ex.ind with
 | h e ih=>
  intro L
  have hk : ∀ (L : Mw) (l : List Ex),(∀ q ∈ l,∀ L,deepF (putX sc fr q L) = deepF q) → deepsF (l.map fun q=>putX sc fr q L) = deepsF l:=by
   intro L l
   induction l with
   | nil=>intro _;rfl
   | cons a r ihr=>
    intro h
    rw [List.map_cons,deepsF,deepsF,h a (by simp),ihr fun q hq=>h q (by simp [hq])]
  rw [putX_eq,deepF_eq e]
  split
  ·rw [deepF_eq];simp only [ex_mk];rw [hk _ _ ih]
  ·rw [deepF_eq];simp only [ex_mk];rw [hk _ _ ih]
theorem shapes_of {e : Ex} : (∀ x ∈ ndE e,∃ o,chkN x = .ok o) → twoX e = true ∧ noW e = true ∧ okQ e = true:=by
 induction e using Ex.ind with
 | h e ih=>
  intro hn
  have hk:=fun q hq=>ih q hq fun x hx=>hn x (by rw [ndE_eq];simp [ndEs_mem hq hx])
  obtain ⟨o,ho⟩:=hn (.e e) (by rw [ndE_eq];simp)
  rw [chkN,chkX] at ho
  split at ho
  ·cases ho
  rename_i g1
  split at ho
  ·cases ho
  rename_i g2
  rw [twoX_eq,noW_eq,okQ_eq,Bool.and_eq_true,Bool.and_eq_true,Bool.and_eq_true,List.all_eq_true,List.all_eq_true,List.all_eq_true]
  refine ⟨⟨?_,fun q hq=>(hk q hq).1⟩,⟨?_,fun q hq=>(hk q hq).2.1⟩,⟨?_,fun q hq=>(hk q hq).2.2⟩⟩
  ·by_cases h2 : e.k = 2
   ·rw [h2] at g2
    simp [wordsN] at g2
    simp [h2]
    omega
   ·simp [h2]
  ·cases hQ : isQ e.k with
   | false=>rfl
   | true=>
    have h910 : e.k = 9 ∨ e.k = 10:=by unfold isQ at hQ;simpa using hQ
    have : e.words.length = 0:=by
     rcases h910 with g | g <;> rw [g] at g2 <;> simp [wordsN] at g2 <;> simp [g2]
    simp [List.length_eq_zero_iff.1 this]
  ·cases hQ : isQ e.k with
   | false=>rfl
   | true=>
    have h910 : e.k = 9 ∨ e.k = 10:=by unfold isQ at hQ;simpa using hQ
    rw [if_neg (by omega),if_pos h910] at ho
    split at ho
    ·rename_i hnm;simp [hnm]
    ·cases ho
theorem puts (hsc : ∀ l y,y ∈ sc l ↔ y ∈ l) (hfr : ∀ a t,fr a t ∉ t) {S : Stc} {e : Ex} {nm : ByteArray} {v : Wd} {ns : List ByteArray} {vs : List Int} (hN : isNameB nm = true) (hc : (checkX (putX sc fr e [(nm,v)])).1 = 0) (hl : ns.length = vs.length) (h19 : ns.length ≤ 19) (hnf : (namF S.n ns vs 0).1 = 0) (hv : kwF S.funs [] ns v = true)
  (hz : (valF S e (ns ++ [nm]) (vs ++ [wordV S.n S.funs (envLs ns vs) v])).1 = 0) : valF S (putX sc fr e [(nm,v)]) ns vs = (0,0) ∧ valB S (putX sc fr e [(nm,v)]) ns vs = valB S e (ns ++ [nm]) (vs ++ [wordV S.n S.funs (envLs ns vs) v]):=by
 obtain ⟨z1,z2,z3,z4,z5,z6,z7⟩:=valF_iff.1 hz
 obtain ⟨e2,eW,eQ⟩:=shapes_of (checkM_ok z2).2
 obtain ⟨p2,pW,pQ⟩:=shapes_of (checkM_ok hc).2
 obtain ⟨vo,vf⟩:=(kwF_iff v).1 hv
 have hNL : NamesL [(nm,v)]:=fun p hp=>by rw [List.mem_singleton] at hp;rw [hp];exact hN
 obtain ⟨o1,o2⟩:=(exK_iff hsc e _ eW).1 z6
 have hz' : (valF S (putX sc fr e [(nm,v)]) ns vs).1 = 0:=by
  rw [valF_iff]
  refine ⟨z1,hc,hl,by omega,hnf,(exK_iff hsc _ _ pW).2 ⟨okE_put hsc e _ hNL (fun p hp=>by rw [List.mem_singleton] at hp;rw [hp];exact vo) o1 eQ pQ,fun y hy=>?_⟩,by rw [deep_put];exact z7⟩
  obtain ⟨z,hzf,hyz⟩:=free_put hsc hfr e _ hNL eW eQ pQ hy
  unfold takenX at hyz
  rw [lookW] at hyz
  by_cases hzn : z = nm
  ·rw [if_pos hzn] at hyz
   exact vf y hyz
  ·rw [if_neg hzn,lookW,List.mem_singleton] at hyz
   rcases List.mem_append.1 (o2 z hzf) with g | g
   ·rw [hyz];exact g
   ·rw [List.mem_singleton] at g;exact absurd g hzn
 refine ⟨(valF_zero hz').2.2.2.2.2.2.2,?_⟩
 rw [valB,valB,if_pos hz,if_pos hz',val_put hsc hfr e _ _ hNL e2 eQ pQ,envLs_snoc hl]
 congr 1
 funext y
 unfold envM updE
 rw [lookW,lookW]
 by_cases hy : y = nm
 ·rw [if_pos hy,if_pos hy]
 ·rw [if_neg hy,if_neg hy]
end
end Go.Proofs.Ytbimioonhfhflaa
