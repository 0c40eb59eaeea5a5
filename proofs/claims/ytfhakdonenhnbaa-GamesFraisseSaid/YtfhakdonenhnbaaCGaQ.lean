import Derived.Test.YtfhakdonenhnbaaCFaN
set_option linter.unusedVariables false
set_option linter.unusedSimpArgs false
set_option maxRecDepth 100000
set_option maxHeartbeats 4000000
namespace Go.Proofs.Ytfhakdonenhnbaa
open Go Go.Pv
def stepW : Nd → WS → RW
 | .w x=>wordH x.nm x.args.length
 | .e x=>exprH x.k x.nm x.words.length x.kids.length
def foldW : List Nd → WS → RW
 | [],s=>.ok s
 | x :: r,s=>match stepW x s with
  | .ok s1=>foldW r s1
  | .error e=>.error e
theorem foldW_app (a b : List Nd) (s : WS) : foldW (a ++ b) s = match foldW a s with
  | .ok s1=>foldW b s1
  | .error e=>.error e:=by
 induction a generalizing s with
 | nil=>rfl
 | cons x r ih=>
  rw [List.cons_append,foldW,foldW]
  cases stepW x s with
  | ok s1=>exact ih s1
  | error e=>rfl
theorem wordsW_fold (l : List Wd) (ih : ∀ w ∈ l,∀ s,wordW w s = foldW (ndW w) s) : ∀ s,wordsW l s = foldW (ndWs l) s:=by
 induction l with
 | nil=>intro s;rw [wordsW,ndWs_nil,foldW]
 | cons w r ihr=>
  intro s
  rw [wordsW,ndWs,foldW_app,← ih w (by simp) s]
  dsimp only
  cases wordW w s with
  | ok s1=>exact ihr (fun w hw=>ih w (by simp [hw])) s1
  | error e=>rfl
theorem wordW_fold (w : Wd) : ∀ s,wordW w s = foldW (ndW w) s:=by
 induction w using Wd.ind with
 | h w ih=>
  intro s
  rw [wordW_eq,ndW_eq,foldW,stepW]
  cases wordH w.nm w.args.length s with
  | ok s1=>exact wordsW_fold _ ih s1
  | error e=>rfl
theorem exprsW_fold (l : List Ex) (ih : ∀ w ∈ l,∀ s,exprW w s = foldW (ndE w) s) : ∀ s,exprsW l s = foldW (ndEs l) s:=by
 induction l with
 | nil=>intro s;rw [exprsW,ndEs_nil,foldW]
 | cons w r ihr=>
  intro s
  rw [exprsW,ndEs,foldW_app,← ih w (by simp) s]
  dsimp only
  cases exprW w s with
  | ok s1=>exact ihr (fun w hw=>ih w (by simp [hw])) s1
  | error e=>rfl
theorem exprW_fold (e : Ex) : ∀ s,exprW e s = foldW (ndE e) s:=by
 induction e using Ex.ind with
 | h e ih=>
  intro s
  rw [exprW_eq,ndE_eq,foldW,stepW]
  cases exprH e.k e.nm e.words.length e.kids.length s with
  | ok s1=>
   dsimp only
   rw [foldW_app,← wordsW_fold _ (fun w _=>wordW_fold w) s1]
   cases wordsW e.words s1 with
   | ok s2=>exact exprsW_fold _ ih s2
   | error e=>rfl
  | error e=>rfl
def encW (b : Bool) (nm : ByteArray) : ByteArray:=(if b = true then (⟨#[102]⟩ : ByteArray) else ⟨#[112]⟩) ++ nm
theorem name_notbig {nm : ByteArray} (h : isNameB nm = true) : isBigB nm = false:=by
 unfold isNameB at h
 rw [Bool.and_eq_true,decide_eq_true_eq] at h
 rw [isBig_eq (by omega)]
 have h2 : letterB nm[0] = true:=by
  have:=h.2
  rw [← List.drop_zero (l:=nm.data.toList),all_at (by omega),Bool.and_eq_true] at this
  exact this.1
 have : capB nm[0] = false:=by
  unfold letterB at h2
  unfold capB
  rw [decide_eq_true_eq] at h2
  rw [decide_eq_false_iff_not];omega
 rw [this,Bool.and_false,Bool.false_and]
theorem stepW_eq (x : Nd) (s : WS) (h : s.1 ≠ 200) : stepW x s = match chkN x with
  | .error c=>.error ((c,s.1),(s.1 + 1,s.2))
  | .ok none=>.ok (s.1 + 1,s.2)
  | .ok (some (b,nm,c))=>manyW s.1 (encW b nm) c (s.1 + 1,s.2):=by
 cases x with
 | w x=>
  rw [stepW,chkN,wordH,chkW,if_neg h]
  by_cases h1 : isNameB x.nm = true
  ·have hnb := name_notbig h1
   rw [if_pos h1,if_neg (c:=isBigB x.nm = true) (by rw [hnb];decide),if_pos h1]
   by_cases h2 : 0 < x.args.length
   ·rw [if_pos h2,if_pos h2]
   ·rw [if_neg h2,if_neg h2]
  ·rw [if_neg h1,if_neg h1]
   by_cases h2 : isBigB x.nm = true
   ·rw [if_pos h2,if_pos h2];rfl
   ·rw [if_neg h2,if_neg h2]
 | e x=>
  rw [stepW,chkN,exprH,chkX,if_neg h]
  by_cases h1 : x.k < 1 ∨ 10 < x.k
  ·rw [if_pos h1,if_pos h1]
  rw [if_neg h1,if_neg h1]
  by_cases h2 : (0 ≤ wordsN x.k ∧ (x.words.length : Int) ≠ wordsN x.k) ∨ (x.kids.length : Int) ≠ kidsX x.k
  ·rw [if_pos h2,if_pos h2]
  rw [if_neg h2,if_neg h2]
  by_cases h3 : x.k = 1
  ·rw [if_pos h3,if_pos h3]
   by_cases h4 : isBigB x.nm = true
   ·rw [if_pos h4,if_pos h4];rfl
   ·rw [if_neg h4,if_neg h4]
  rw [if_neg h3,if_neg h3]
  by_cases h4 : x.k = 9 ∨ x.k = 10
  ·rw [if_pos h4,if_pos h4]
   by_cases h5 : isNameB x.nm = true
   ·rw [if_pos h5,if_pos h5]
   ·rw [if_neg h5,if_neg h5]
  rw [if_neg h4,if_neg h4]
  by_cases h5 : x.nm = ⟨#[]⟩
  ·rw [if_pos h5,if_pos h5]
  ·rw [if_neg h5,if_neg h5]
theorem stepW_200 (x : Nd) (s : WS) (h : s.1 = 200) : stepW x s = .error ((2,0),s):=by
 cases x with
 | w x=>rw [stepW,wordH,if_pos h]
 | e x=>rw [stepW,exprH,if_pos h]
theorem chkN_size {x : Nd} {b : Bool} {nm : ByteArray} {c : Nat} (h : chkN x = .ok (some (b,nm,c))) : nm.size ≤ 8:=by
 have big : ∀ nm,isBigB nm = true → nm.size ≤ 8:=fun nm h=>by
  unfold isBigB at h
  simp only [Bool.and_eq_true,decide_eq_true_eq] at h
  omega
 cases x with
 | w x=>
  rw [chkN,chkW] at h
  split at h
  ·rename_i hb;cases h;exact big _ hb
  split at h
  ·split at h <;> cases h
  ·cases h
 | e x=>
  rw [chkN,chkX] at h
  split at h
  ·cases h
  split at h
  ·cases h
  split at h
  ·split at h
   ·rename_i hb;cases h;exact big _ hb
   ·cases h
  split at h
  ·split at h <;> cases h
  split at h <;> cases h
theorem app_inj {a b x y : ByteArray} (hs : a.size = b.size) (h : a ++ x = b ++ y) : a = b ∧ x = y:=by
 have h1:=congrArg (fun z : ByteArray=>z.data.toList) h
 simp only [ByteArray.data_append,Array.toList_append] at h1
 obtain ⟨h2,h3⟩:=List.append_inj h1 hs
 exact ⟨ByteArray.ext (Array.toList_inj.1 h2),ByteArray.ext (Array.toList_inj.1 h3)⟩
theorem encW_inj {b b' : Bool} {nm nm' : ByteArray} (h : encW b nm = encW b' nm') : b = b' ∧ nm = nm':=by
 unfold encW at h
 obtain ⟨h1,h2⟩:=app_inj (by cases b <;> cases b' <;> rfl) h
 refine ⟨?_,h2⟩
 cases b <;> cases b' <;> first | rfl | (revert h1;decide)
theorem encR_inj {b b' : Bool} {nm nm' : ByteArray} (h : encR b nm = encR b' nm') : b = b' ∧ nm = nm':=by
 unfold encR at h
 obtain ⟨h1,h2⟩:=app_inj (by cases b <;> cases b' <;> rfl) h
 refine ⟨?_,h2⟩
 cases b <;> cases b' <;> first | rfl | (revert h1;decide)
abbrev AK:=List ((Bool × ByteArray) × Int)
def spW (A : AK) : List (ByteArray × Int):=A.map fun p=>(encW p.1.1 p.1.2,p.2)
def spR (A : AK) : List (ByteArray × Int):=A.map fun p=>(encR p.1.1 p.1.2,p.2)
theorem look_sp (b : Bool) (nm : ByteArray) : ∀ A : AK,lookI (encW b nm) (spW A) = lookI (encR b nm) (spR A)
 | []=>rfl
 | p :: r=>by
  have ih:=look_sp b nm r
  show lookI _ ((encW p.1.1 p.1.2,p.2) :: spW r) = lookI _ ((encR p.1.1 p.1.2,p.2) :: spR r)
  rw [lookI,lookI,ih]
  by_cases h : encW b nm = encW p.1.1 p.1.2
  ·obtain ⟨rfl,rfl⟩ := encW_inj h
   rw [if_pos rfl,if_pos rfl]
  ·rw [if_neg h,if_neg fun h2=>h (by obtain ⟨rfl,rfl⟩:=encR_inj h2;rfl)]
def Uniq (L : List (ByteArray × Int)) : Prop:=(L.map (·.1)).Nodup
theorem look_none {key : ByteArray} : ∀ {L : List (ByteArray × Int)},lookI key L = none → key ∉ L.map (·.1)
 | [],_=>by simp
 | p :: r,h=>by
  unfold lookI at h
  split at h
  ·cases h
  ·rename_i hk
   simp only [List.map_cons,List.mem_cons,not_or]
   exact ⟨hk,look_none h⟩
theorem lastIx_none {key : ByteArray} : ∀ (L : List (ByteArray × Int)) (j : Nat) (acc : Int),key ∉ L.map (·.1) → lastIx key L j acc = acc
 | [],j,acc,_=>rfl
 | p :: r,j,acc,h=>by
  simp only [List.map_cons,List.mem_cons,not_or] at h
  rw [lastIx,if_neg (fun e=>h.1 e.symm)]
  exact lastIx_none r (j + 1) acc h.2
theorem lastIx_some {key : ByteArray} {m : Int} : ∀ (L : List (ByteArray × Int)) (j : Nat) (acc : Int),Uniq L → lookI key L = some m → ∃ k,lastIx key L j acc = ((j + k : Nat) : Int) ∧ L[k]? = some (key,m)
 | [],j,acc,_,h=>by cases h
 | p :: r,j,acc,hu,h=>by
  unfold Uniq at hu
  rw [List.map_cons,List.nodup_cons] at hu
  unfold lookI at h
  rw [lastIx]
  split at h
  ·rename_i hk
   cases h
   rw [if_pos hk.symm,lastIx_none r _ _ (hk ▸ hu.1)]
   exact ⟨0,rfl,by rw [List.getElem?_cons_zero,hk]⟩
  ·rename_i hk
   rw [if_neg (fun e=>hk e.symm)]
   obtain ⟨k,h1,h2⟩:=lastIx_some r (j + 1) acc hu.2 h
   exact ⟨k + 1,by rw [h1];congr 1;omega,h2⟩
def fltW : RW → Int × Int
 | .ok _=>(0,0)
 | .error (er,_)=>(er.1,(er.2 : Int))
theorem fold_ref : ∀ (l : List Nd) (i : Nat) (A : AK),Uniq (spR A) → fltW (foldW l (i,spW A)) = refF l i (spR A)
 | [],i,A,_=>rfl
 | x :: r,i,A,hu=>by
  rw [foldW,refF]
  by_cases h : i = 200
  ·rw [stepW_200 x _ h,if_pos h];rfl
  rw [stepW_eq x (i,spW A) h,if_neg h]
  cases hc : chkN x with
  | error c=>rfl
  | ok o=>
   cases o with
   | none=>exact fold_ref r (i + 1) A hu
   | some q=>
    obtain ⟨b,nm,c⟩:=q
    dsimp only
    unfold manyW
    dsimp only
    rw [look_sp]
    cases hk : lookI (encR b nm) (spR A) with
    | none=>
     have h1:=lastIx_none (spR A) 0 (-1) (look_none hk)
     rw [h1,if_pos (by decide)]
     dsimp only
     have e1 : spW A ++ [(encW b nm,(c : Int))] = spW (A ++ [((b,nm),(c : Int))]):=by simp [spW]
     have e2 : spR A ++ [(encR b nm,(c : Int))] = spR (A ++ [((b,nm),(c : Int))]):=by simp [spR]
     rw [e1,e2]
     refine fold_ref r (i + 1) _ ?_
     rw [← e2]
     unfold Uniq at hu ⊢
     rw [List.map_append,List.nodup_append]
     refine ⟨hu,by simp,?_⟩
     intro a ha b' hb'
     simp only [List.map_cons,List.map_nil,List.mem_singleton] at hb'
     subst hb'
     exact fun e=>look_none hk (e ▸ ha)
    | some m=>
     obtain ⟨k,h1,h2⟩:=lastIx_some (spR A) 0 (-1) hu hk
     rw [h1,if_neg (by omega),Int.toNat_natCast,Nat.zero_add,h2]
     dsimp only [Option.map_some,Option.getD_some]
     by_cases hm : m = (c : Int)
     ·rw [if_pos hm,if_pos hm]
      exact fold_ref r (i + 1) A hu
     ·rw [if_neg hm,if_neg hm];rfl
theorem refF_take : ∀ (l : List Nd) (n i : Nat) (A : List (ByteArray × Int)),i ≤ 200 → 201 ≤ i + n → refF (l.take n) i A = refF l i A
 | [],n,i,A,_,_=>by rw [List.take_nil]
 | x :: r,0,i,A,h1,h2=>by omega
 | x :: r,n + 1,i,A,h1,h2=>by
  rw [List.take_succ_cons,refF,refF]
  by_cases h : i = 200
  ·rw [if_pos h,if_pos h]
  rw [if_neg h,if_neg h]
  have ih:=fun A=>refF_take r n (i + 1) A (by omega) (by omega)
  cases chkN x with
  | error c=>rfl
  | ok o=>
   cases o with
   | none=>exact ih A
   | some q=>simp only [ih]
theorem check_ref (e : Ex) : refF ((ndE e).take 202) 0 [] = checkX e:=by
 rw [refF_take _ _ _ _ (by decide) (by decide)]
 have h:=fold_ref (ndE e) 0 [] (by simp [Uniq,spR])
 rw [show spR [] = [] from rfl,show spW [] = [] from rfl,← exprW_fold] at h
 rw [← h]
 unfold fltW checkX
 cases exprW e (0,[]) <;> rfl
def x9 : XC:=.seq (.reg [⟨some 1,.box 29 (.tmp 0),none⟩,⟨some 2,.alloc 33,none⟩]) (.seq (.reg [⟨some 3,.load 29 (.tmp 1),none⟩,⟨some 4,.buildSlice 27 1 #[(0,.tmp 3)],none⟩,⟨some 5,.call ⟨.value (.func 19),#[.tmp 4,.const (.int .i64 201)],#[27,3]⟩,none⟩,⟨some 6,.call ⟨.value (.func 18),#[.tmp 5],#[55]⟩,none⟩,⟨none,.store 33 (.tmp 2) (.tmp 6),none⟩]) .ret)
@[simp] theorem x9_s {C e s K} : type_of% (@X_at C e s K _ _ x9.eq_1):=X_at x9.eq_1
def an9 : Ann:=⟨[],[],[]⟩
theorem fi9 : FI Try.prog 9 (cxA an9) x9 [.cell 2 33] Try.f9:=fiA Try.func9 mixed
theorem ExprFault_ref (e : Ex) : CallOK Try.prog 9 [.agg (exr e)] [] (.agg [.int .i64 (checkX e).1,.int .i64 (checkX e).2]) []:=by
 have h1:=nodesOf_of [e] (fun w _=>nodesOf_ref w) 202 (by decide)
 rw [ndEs,ndEs_nil,List.append_nil] at h1
 have h2:=faultOf_ref ((ndE e).take 202) (by rw [List.length_take];omega) (fun x _ b nm c h=>chkN_size h)
 rw [check_ref] at h2
 generalize (ndE e).take 202 = L at *
 generalize checkX e = q at *
 refine fi9.op ?_
 (refine Sg.h ?_;try repeat' ((with_reducible first|refine brA ?_|refine brE fun _=>?_|refine spl ⟨?_,?_⟩<;>intro _)<;>((try simp -implicitDefEqProofs);(try simp -implicitDefEqProofs(disch:=first|assumption|(try simp only[lens]);omega -splitDisjunctions)))))
 refine CL.giv [2] ?_
 (refine Sg.h ?_;try repeat' ((first|(with_reducible first|refine brA ?_|refine brE fun _=>?_|refine spl ⟨?_,?_⟩<;>intro _)|refine clo h1 ?_|refine clo h2 ?_)<;>((try simp -implicitDefEqProofs);(try simp -implicitDefEqProofs(disch:=first|assumption|(try simp only[lens]);omega -splitDisjunctions)))))
end Go.Proofs.Ytfhakdonenhnbaa
namespace Go.Proofs.Ytfhakdonenhnbaa
open Go Go.Pv
structure Fn where
 name : ByteArray
 ar : Int
 tab : List Int
 deriving Inhabited
structure Pd where
 name : ByteArray
 ar : Int
 bits : List Bool
 deriving Inhabited
structure Stc where
 n : Int
 funs : List Fn
 preds : List Pd
def fnRow (f : Fn) : List PV:=[.str f.name,.int .i64 f.ar,.list (f.tab.map intRow)]
def pdRow (p : Pd) : List PV:=[.str p.name,.int .i64 p.ar,.list (p.bits.map boolRow)]
def stc (S : Stc) : List PV:=[.int .i64 S.n,.list (S.funs.map fnRow),.list (S.preds.map pdRow)]
instance : FlatRow fnRow:=⟨fun _=>rfl⟩
instance : FlatRow pdRow:=⟨fun _=>rfl⟩
@[simp] theorem fn_len {f : Fn} : (fnRow f).length = 3:=rfl
@[simp] theorem fn_cell {f : Fn} : (∀ x ∈ fnRow f,isCell x = true) = True:=by simp [fnRow]
@[simp] theorem fn_cell2 {f : Fn} : (fnRow f).all isCell = true:=rfl
@[simp] theorem fn_get0 {f : Fn} : (fnRow f)[0]? = some (.str f.name):=rfl
@[simp] theorem fn_get1 {f : Fn} : (fnRow f)[1]? = some (.int .i64 f.ar):=rfl
@[simp] theorem fn_get2 {f : Fn} : (fnRow f)[2]? = some (.list (f.tab.map intRow)):=rfl
@[simp] theorem pd_len {f : Pd} : (pdRow f).length = 3:=rfl
@[simp] theorem pd_cell {f : Pd} : (∀ x ∈ pdRow f,isCell x = true) = True:=by simp [pdRow]
@[simp] theorem pd_cell2 {f : Pd} : (pdRow f).all isCell = true:=rfl
@[simp] theorem pd_get0 {f : Pd} : (pdRow f)[0]? = some (.str f.name):=rfl
@[simp] theorem pd_get1 {f : Pd} : (pdRow f)[1]? = some (.int .i64 f.ar):=rfl
@[simp] theorem pd_get2 {f : Pd} : (pdRow f)[2]? = some (.list (f.bits.map boolRow)):=rfl
@[simp] theorem fn_ge0 {f : Fn} (h : 0 < (fnRow f).length) : (fnRow f)[0] = .str f.name:=rfl
@[simp] theorem fn_ge1 {f : Fn} (h : 1 < (fnRow f).length) : (fnRow f)[1] = .int .i64 f.ar:=rfl
@[simp] theorem fn_ge2 {f : Fn} (h : 2 < (fnRow f).length) : (fnRow f)[2] = .list (f.tab.map intRow):=rfl
@[simp] theorem fn_take3 {f : Fn} : (fnRow f).take 3 = fnRow f:=rfl
@[simp] theorem fn_drop1 {f : Fn} : (fnRow f).drop 1 = [.int .i64 f.ar,.list (f.tab.map intRow)]:=rfl
@[simp] theorem fn_drop2 {f : Fn} : (fnRow f).drop 2 = [.list (f.tab.map intRow)]:=rfl
@[simp] theorem fn_drop3 {f : Fn} : (fnRow f).drop 3 = []:=rfl
@[simp] theorem fn_tail {f : Fn} : (fnRow f).tail = [.int .i64 f.ar,.list (f.tab.map intRow)]:=rfl
theorem fn_flat (f : Fn) : (fnRow f).all flatV = true:=rfl
@[simp] theorem fn_renm {f : Fn} {ρ : List Nat} {n : Nat} : (fnRow f).map (renN ρ n) = fnRow f:=map_id_of (fun v=>flat_ren) (fn_flat f)
@[simp] theorem fn_derefm {f : Fn} {s : Store} {n : Nat} : (fnRow f).map (deref s n) = fnRow f:=map_id_of (fun v=>flat_deref) (fn_flat f)
@[simp] theorem fn_frz {f : Fn} {F : List Nat} {s : Store} : (fnRow f).map (frzV F s) = fnRow f:=map_id_of (fun v=>frzV_flat) (fn_flat f)
@[simp] theorem fn_up {f : Fn} {ρ : List Nat} {n : Nat} : (fnRow f).map (upN ρ n) = fnRow f:=map_id_of (fun v=>flat_up) (fn_flat f)
@[simp] theorem fn_refs {f : Fn} {n : Nat} : (fnRow f).flatMap (refsN n) = []:=by simp [fnRow]
@[simp] theorem fn_soft {f : Fn} : (fnRow f).map soft1 = fnRow f:=rfl
@[simp] theorem pd_ge0 {f : Pd} (h : 0 < (pdRow f).length) : (pdRow f)[0] = .str f.name:=rfl
@[simp] theorem pd_ge1 {f : Pd} (h : 1 < (pdRow f).length) : (pdRow f)[1] = .int .i64 f.ar:=rfl
@[simp] theorem pd_ge2 {f : Pd} (h : 2 < (pdRow f).length) : (pdRow f)[2] = .list (f.bits.map boolRow):=rfl
@[simp] theorem pd_take3 {f : Pd} : (pdRow f).take 3 = pdRow f:=rfl
@[simp] theorem pd_drop1 {f : Pd} : (pdRow f).drop 1 = [.int .i64 f.ar,.list (f.bits.map boolRow)]:=rfl
@[simp] theorem pd_drop2 {f : Pd} : (pdRow f).drop 2 = [.list (f.bits.map boolRow)]:=rfl
@[simp] theorem pd_drop3 {f : Pd} : (pdRow f).drop 3 = []:=rfl
@[simp] theorem pd_tail {f : Pd} : (pdRow f).tail = [.int .i64 f.ar,.list (f.bits.map boolRow)]:=rfl
theorem pd_flat (f : Pd) : (pdRow f).all flatV = true:=rfl
@[simp] theorem pd_renm {f : Pd} {ρ : List Nat} {n : Nat} : (pdRow f).map (renN ρ n) = pdRow f:=map_id_of (fun v=>flat_ren) (pd_flat f)
@[simp] theorem pd_derefm {f : Pd} {s : Store} {n : Nat} : (pdRow f).map (deref s n) = pdRow f:=map_id_of (fun v=>flat_deref) (pd_flat f)
@[simp] theorem pd_frz {f : Pd} {F : List Nat} {s : Store} : (pdRow f).map (frzV F s) = pdRow f:=map_id_of (fun v=>frzV_flat) (pd_flat f)
@[simp] theorem pd_up {f : Pd} {ρ : List Nat} {n : Nat} : (pdRow f).map (upN ρ n) = pdRow f:=map_id_of (fun v=>flat_up) (pd_flat f)
@[simp] theorem pd_refs {f : Pd} {n : Nat} : (pdRow f).flatMap (refsN n) = []:=by simp [pdRow]
@[simp] theorem pd_soft {f : Pd} : (pdRow f).map soft1 = pdRow f:=rfl
def tabF (N : Int) (f : Fn) : Int:=if f.ar < 0 ∨ 3 < f.ar then 3 else if (f.tab.length : Int) ≠ N ^ f.ar.toNat then 9 else if f.tab.any (fun x=>decide (x < 0 ∨ N ≤ x)) = true then 5 else 0
def bitF (N : Int) (p : Pd) : Int:=if p.ar < 0 ∨ 3 < p.ar then 3 else if (p.bits.length : Int) ≠ N ^ p.ar.toNat then 9 else 0
def funsF (N : Int) : List Fn → List Fn → Nat → Int × Int
 | _,[],_=>(0,0)
 | pre,f :: r,i=>if isBigB f.name = false ∨ (pre.any fun g=>decide (g.name = f.name)) = true then (8,(i : Int)) else if tabF N f ≠ 0 then (tabF N f,(i : Int)) else funsF N (pre ++ [f]) r (i + 1)
def predsF (N : Int) : List Pd → List Pd → Nat → Int × Int
 | _,[],_=>(0,0)
 | pre,p :: r,i=>if isBigB p.name = false ∨ (pre.any fun g=>decide (g.name = p.name)) = true then (8,(i : Int)) else if bitF N p ≠ 0 then (bitF N p,(i : Int)) else predsF N (pre ++ [p]) r (i + 1)
def stcF (S : Stc) : Int × Int:=if S.n < 1 ∨ 8 < S.n ∨ 10 < S.funs.length ∨ 10 < S.preds.length then (2,0) else if (funsF S.n [] S.funs 0).1 ≠ 0 then funsF S.n [] S.funs 0 else predsF S.n [] S.preds S.funs.length
end Go.Proofs.Ytfhakdonenhnbaa
namespace Go.Proofs.Ytfhakdonenhnbaa
open Go Go.Pv
def at0 (l : List Nat) (i : Nat) : Nat:=l.getD i 0
def bitAt (p : Pd) (i : Nat) : Bool:=p.bits.getD i false
def eqsB (xs ys : List Nat) : Bool:=(List.range xs.length).all fun i=>(List.range xs.length).all fun k=>decide (at0 xs i = at0 xs k) == decide (at0 ys i = at0 ys k)
def predB (A B : Nat) (p q : Pd) (xs ys : List Nat) : Bool:=
 if p.ar = 0 then bitAt p 0 == bitAt q 0
 else if p.ar = 1 then (List.range xs.length).all fun k=>bitAt p (at0 xs k) == bitAt q (at0 ys k)
 else if p.ar = 2 then (List.range xs.length).all fun k=>(List.range xs.length).all fun m=>bitAt p (at0 xs k + at0 xs m * A) == bitAt q (at0 ys k + at0 ys m * B)
 else true
def predsB (A B : Nat) (P Q : List Pd) (xs ys : List Nat) : Bool:=(P.zip Q).all fun r=>predB A B r.1 r.2 xs ys
def fitB (A B : Nat) (P Q : List Pd) (xs ys : List Nat) : Bool:=eqsB xs ys && predsB A B P Q xs ys
def winF (A B : Nat) (P Q : List Pd) : Nat → List Nat → List Nat → Bool
 | 0,xs,ys=>fitB A B P Q xs ys
 | r + 1,xs,ys=>fitB A B P Q xs ys && (((List.range A).all fun x=>(List.range B).any fun y=>winF A B P Q r (xs ++ [x]) (ys ++ [y])) && (List.range B).all fun y=>(List.range A).any fun x=>winF A B P Q r (xs ++ [x]) (ys ++ [y]))
abbrev Mem:=List (List Int × Bool)
def padI (l : List Nat) : List Int:=(l ++ List.replicate (4 - l.length) 0).map fun (n : Nat)=>(n : Int)
def posC (xs ys : List Nat) : List Int:=(xs.length : Int) :: (padI xs ++ padI ys)
def keyC (xs ys : List Nat) (r : Nat) : List Int:=posC xs ys ++ (r : Int) :: List.replicate 8 0
def lkM (c : List Int) : Mem → Nat → Option (Nat × Bool)
 | [],_=>none
 | p :: es,i=>if c = p.1 then some (i,p.2) else lkM c es (i + 1)
def ptM (c : List Int) (b : Bool) (es : Mem) : Mem:=match lkM c es 0 with
 | some (j,_)=>es.set j (c,b)
 | none=>es ++ [(c,b)]
def anyS {σ : Type} (f : Nat → σ → Bool × σ) : List Nat → σ → Bool × σ
 | [],s=>(false,s)
 | y :: r,s=>if (f y s).1 = true then (true,(f y s).2) else anyS f r (f y s).2
def allS {σ : Type} (f : Nat → σ → Bool × σ) : List Nat → Bool → σ → Bool × σ
 | [],b,s=>(b,s)
 | x :: r,b,s=>if b = true then allS f r (f x s).1 (f x s).2 else allS f r false s
def winS (A B : Nat) (P Q : List Pd) : Nat → List Nat → List Nat → Mem → Bool × Mem
 | 0,xs,ys,es=>(fitB A B P Q xs ys,es)
 | r + 1,xs,ys,es => if fitB A B P Q xs ys = true then (match lkM (keyC xs ys (r + 1)) es 0 with
   | some (_,b)=>(b,es)
   | none=>
    let q1:=allS (fun x=>anyS (fun y=>winS A B P Q r (xs ++ [x]) (ys ++ [y])) (List.range B)) (List.range A) true es
    let q2:=allS (fun y=>anyS (fun x=>winS A B P Q r (xs ++ [x]) (ys ++ [y])) (List.range A)) (List.range B) q1.1 q1.2
    (q2.1,ptM (keyC xs ys (r + 1)) q2.1 q2.2))
  else (false,es)
def askC (A B : Nat) (P Q : List Pd) (c : List Int) : Bool:=
 winF A B P Q (c.getD 9 0).toNat (((c.drop 1).take (c.getD 0 0).toNat).map Int.toNat) (((c.drop 5).take (c.getD 0 0).toNat).map Int.toNat)
def MemOk (A B : Nat) (P Q : List Pd) (es : Mem) : Prop:=∀ p ∈ es,p.2 = askC A B P Q p.1
def KeysOk (es : Mem) : Prop:=∀ p ∈ es,p.1.length = 18 ∧ ∀ z ∈ p.1,0 ≤ z ∧ z ≤ 8
section
variable {A B : Nat} {P Q : List Pd}
theorem padI_len {l : List Nat} (h : l.length ≤ 4) : (padI l).length = 4:=by simp [padI];omega
theorem padI_get {l : List Nat} {i : Nat} (h : l.length ≤ 4) (hi : i < 4) : (padI l)[i]? = some ((at0 l i : Nat) : Int):=by
 unfold padI at0
 rw [List.getElem?_map,List.getElem?_append]
 split
 ·rename_i hl
  rw [List.getElem?_eq_getElem hl,List.getD_eq_getElem?_getD,List.getElem?_eq_getElem hl];rfl
 ·rename_i hl
  rw [List.getElem?_replicate,if_pos (by omega),List.getD_eq_getElem?_getD,List.getElem?_eq_none (by omega)];rfl
theorem padI_take {l : List Nat} : ((padI l).take l.length).map Int.toNat = l:=by
 unfold padI
 rw [← List.map_take,List.take_left' rfl,List.map_map]
 induction l with
 | nil=>rfl
 | cons a r ih=>simp [ih]
theorem keyC_len {xs ys : List Nat} {r : Nat} (hx : xs.length ≤ 4) (hy : ys.length ≤ 4) : (keyC xs ys r).length = 18:=by
 have h1:=padI_len hx
 have h2:=padI_len hy
 simp [keyC,posC,h1,h2]
theorem askC_key {xs ys : List Nat} {r : Nat} (hx : xs.length ≤ 4) (hy : ys.length = xs.length) : askC A B P Q (keyC xs ys r) = winF A B P Q r xs ys:=by
 have h1:=padI_len hx
 have h2:=padI_len (l:=ys) (by omega)
 have e9 : (keyC xs ys r).getD 9 0 = (r : Int):=by
  rw [List.getD_eq_getElem?_getD]
  unfold keyC posC
  rw [List.cons_append,List.getElem?_cons_succ,List.getElem?_append_right (by simp [h1,h2]),List.length_append,h1,h2];rfl
 have e0 : (keyC xs ys r).getD 0 0 = (xs.length : Int):=rfl
 unfold askC
 rw [e9,e0,Int.toNat_natCast,Int.toNat_natCast]
 congr 1
 ·unfold keyC posC
  rw [List.cons_append,List.drop_succ_cons,List.drop_zero,List.append_assoc,List.take_append_of_le_length (by omega),padI_take]
 ·unfold keyC posC
  rw [List.cons_append,List.drop_succ_cons,List.append_assoc,List.drop_left' h1,List.take_append_of_le_length (by omega),← hy,padI_take]
theorem lkM_mem {c : List Int} : ∀ {es : Mem} {i j : Nat} {b : Bool},lkM c es i = some (j,b) → (c,b) ∈ es ∧ i ≤ j ∧ es[j - i]? = some (c,b)
 | [],_,_,_,h=>by cases h
 | p :: es,i,j,b,h=>by
  unfold lkM at h
  split at h
  ·rename_i hc
   cases h
   subst hc
   simp
  ·obtain ⟨h1,h2,h3⟩ := lkM_mem h
   refine ⟨List.mem_cons_of_mem _ h1,by omega,?_⟩
   rw [show j - i = (j - (i + 1)) + 1 by omega,List.getElem?_cons_succ];exact h3
theorem ptM_mem {c : List Int} {b : Bool} {es : Mem} {p : List Int × Bool} (h : p ∈ ptM c b es) : p = (c,b) ∨ p ∈ es:=by
 unfold ptM at h
 split at h
 ·exact (List.mem_or_eq_of_mem_set h).symm
 ·rcases List.mem_append.1 h with h | h
  ·exact .inr h
  ·exact .inl (List.mem_singleton.1 h)
def Keeps (ok : Mem → Prop) (b : Bool) (q : Bool × Mem) : Prop:=q.1 = b ∧ ok q.2
theorem anyS_ok {ok : Mem → Prop} {f : Nat → Mem → Bool × Mem} {g : Nat → Bool} : ∀ {l : List Nat},(∀ y ∈ l,∀ es,ok es → Keeps ok (g y) (f y es)) → ∀ es,ok es → Keeps ok (l.any g) (anyS f l es)
 | [],_,es,h=>⟨rfl,h⟩
 | y :: r,hf,es,h=>by
  obtain ⟨h1,h2⟩:=hf y (by simp) es h
  unfold anyS
  rw [List.any_cons]
  cases hg : g y with
  | true=>rw [if_pos (h1.trans hg)];exact ⟨rfl,h2⟩
  | false=>rw [if_neg (by rw [h1,hg];simp),Bool.false_or];exact anyS_ok (fun z hz=>hf z (by simp [hz])) _ h2
theorem allS_ok {ok : Mem → Prop} {f : Nat → Mem → Bool × Mem} {g : Nat → Bool} : ∀ {l : List Nat},(∀ y ∈ l,∀ es,ok es → Keeps ok (g y) (f y es)) → ∀ b es,ok es → Keeps ok (b && l.all g) (allS f l b es)
 | [],_,b,es,h=>⟨(Bool.and_true b).symm,h⟩
 | y :: r,hf,b,es,h=>by
  unfold allS
  rw [List.all_cons]
  cases b with
  | true=>
   obtain ⟨h1,h2⟩:=hf y (by simp) es h
   rw [if_pos rfl,h1,Bool.true_and]
   exact allS_ok (fun z hz=>hf z (by simp [hz])) _ _ h2
  | false=>
   rw [if_neg (by simp),Bool.false_and]
   have:=allS_ok (l:=r) (fun z hz=>hf z (by simp [hz])) false es h
   rwa [Bool.false_and] at this
theorem winS_ok {ok : Mem → Prop} (hput : ∀ xs ys r es,xs.length ≤ 4 → ys.length = xs.length → (∀ x ∈ xs,x < A) → (∀ y ∈ ys,y < B) → r ≤ 4 → ok es → ok (ptM (keyC xs ys r) (winF A B P Q r xs ys) es)) (hget : ∀ es,ok es → MemOk A B P Q es) : ∀ (r : Nat) (xs ys : List Nat),xs.length + r ≤ 4 → ys.length = xs.length → (∀ x ∈ xs,x < A) → (∀ y ∈ ys,y < B) → ∀ es,ok es → Keeps ok (winF A B P Q r xs ys) (winS A B P Q r xs ys es)
 | 0,xs,ys,_,_,_,_,es,h=>⟨rfl,h⟩
 | r + 1,xs,ys,hx,hy,hA,hB,es,h=>by
  have hp:=hput xs ys (r + 1)
  have hk:=askC_key (A:=A) (B:=B) (P:=P) (Q:=Q) (xs:=xs) (ys:=ys) (r:=r + 1) (by omega) hy
  have hg:=hget es h
  have ih : ∀ x,x < A → ∀ y,y < B → ∀ es,ok es → Keeps ok (winF A B P Q r (xs ++ [x]) (ys ++ [y])) (winS A B P Q r (xs ++ [x]) (ys ++ [y]) es):=fun x hxA y hyB es h=>
   winS_ok hput hget r (xs ++ [x]) (ys ++ [y]) (by simp;omega) (by simp [hy]) (fun z hz=>by rcases List.mem_append.1 hz with h | h;exact hA z h;rw [List.mem_singleton.1 h];exact hxA) (fun z hz=>by rcases List.mem_append.1 hz with h | h;exact hB z h;rw [List.mem_singleton.1 h];exact hyB) es h
  obtain ⟨w,hw⟩ : ∃ w,winF A B P Q (r + 1) xs ys = w:=⟨_,rfl⟩
  have hw':=hw
  rw [winF] at hw
  rw [hw'] at hk hp ⊢
  unfold winS
  cases hf : fitB A B P Q xs ys with
  | false=>rw [if_neg (by simp)];rw [hf,Bool.false_and] at hw;exact ⟨hw,h⟩
  | true=>
   rw [if_pos rfl]
   rw [hf,Bool.true_and] at hw
   cases hl : lkM (keyC xs ys (r + 1)) es 0 with
   | some q=>
    obtain ⟨j,b⟩:=q
    have:=hg _ (lkM_mem hl).1
    exact ⟨by rw [← hk];exact this,h⟩
   | none=>
    dsimp only
    have a1:=allS_ok (ok:=ok) (l:=List.range A) (f:=fun x=>anyS (fun y=>winS A B P Q r (xs ++ [x]) (ys ++ [y])) (List.range B)) (g:=fun x=>(List.range B).any fun y=>winF A B P Q r (xs ++ [x]) (ys ++ [y]))
     (fun x hx es h=>anyS_ok (fun y hy es h=>ih x (List.mem_range.1 hx) y (List.mem_range.1 hy) es h) es h) true es h
    obtain ⟨a2,a3⟩:=a1
    generalize allS (fun x=>anyS (fun y=>winS A B P Q r (xs ++ [x]) (ys ++ [y])) (List.range B)) (List.range A) true es = q1 at *
    have b1:=allS_ok (ok:=ok) (l:=List.range B) (f:=fun y=>anyS (fun x=>winS A B P Q r (xs ++ [x]) (ys ++ [y])) (List.range A)) (g:=fun y=>(List.range A).any fun x=>winF A B P Q r (xs ++ [x]) (ys ++ [y]))
     (fun y hy es h=>anyS_ok (fun x hx es h=>ih x (List.mem_range.1 hx) y (List.mem_range.1 hy) es h) es h) q1.1 q1.2 a3
    obtain ⟨b2,b3⟩:=b1
    have b2:=b2.trans (show _ = w by rw [a2,Bool.true_and];exact hw)
    generalize allS (fun y=>anyS (fun x=>winS A B P Q r (xs ++ [x]) (ys ++ [y])) (List.range A)) (List.range B) q1.1 q1.2 = q2 at *
    refine ⟨b2,?_⟩
    dsimp only
    rw [b2]
    exact hp _ (by omega) hy hA hB (by omega) b3
end
def MemG (A B : Nat) (P Q : List Pd) (es : Mem) : Prop:=MemOk A B P Q es ∧ KeysOk es
theorem keyC_ok {A B : Nat} (hA : A ≤ 8) (hB : B ≤ 8) {xs ys : List Nat} {r : Nat} (hx : xs.length ≤ 4) (hy : ys.length = xs.length) (h1 : ∀ x ∈ xs,x < A) (h2 : ∀ y ∈ ys,y < B) (hr : r ≤ 4) : ∀ z ∈ keyC xs ys r,0 ≤ z ∧ z ≤ 8:=by
 intro z hz
 have pad : ∀ (l : List Nat),(∀ x ∈ l,x < 8) → z ∈ padI l → 0 ≤ z ∧ z ≤ 8:=by
  intro l hl h
  unfold padI at h
  obtain ⟨n,hn,rfl⟩:=List.mem_map.1 h
  rcases List.mem_append.1 hn with h | h
  ·have:=hl n h;omega
  ·have:=List.eq_of_mem_replicate h;omega
 unfold keyC posC at hz
 rcases List.mem_append.1 hz with h | h
 ·rcases List.mem_cons.1 h with rfl | h
  ·omega
  ·rcases List.mem_append.1 h with h | h
   ·exact pad _ (fun x hx=>by have:=h1 x hx;omega) h
   ·exact pad _ (fun x hx=>by have:=h2 x hx;omega) h
 ·rcases List.mem_cons.1 h with rfl | h
  ·omega
  ·have:=List.eq_of_mem_replicate h;omega
theorem winS_spec {A B : Nat} {P Q : List Pd} (hA : A ≤ 8) (hB : B ≤ 8) (r : Nat) (xs ys : List Nat) (hx : xs.length + r ≤ 4) (hy : ys.length = xs.length) (h1 : ∀ x ∈ xs,x < A) (h2 : ∀ y ∈ ys,y < B) (es : Mem) (h : MemG A B P Q es) :
  (winS A B P Q r xs ys es).1 = winF A B P Q r xs ys ∧ MemG A B P Q (winS A B P Q r xs ys es).2:=by
 refine winS_ok (ok:=MemG A B P Q) (fun xs ys r es hx hy h1 h2 hr h=>⟨fun p hp=>?_,fun p hp=>?_⟩) (fun es h=>h.1) r xs ys hx hy h1 h2 es h
 ·rcases ptM_mem hp with rfl | hp
  ·exact (askC_key hx hy).symm
  ·exact h.1 p hp
 ·rcases ptM_mem hp with rfl | hp
  ·exact ⟨keyC_len hx (by omega),keyC_ok hA hB hx hy h1 h2 hr⟩
  ·exact h.2 p hp
end Go.Proofs.Ytfhakdonenhnbaa
namespace Go.Proofs.Ytfhakdonenhnbaa
open Go Go.Pv
def SameAr (P Q : List Pd) : Prop:=P.map Pd.ar = Q.map Pd.ar
section
variable {A B C : Nat} {P Q R : List Pd}
theorem eqsB_iff {xs ys : List Nat} : eqsB xs ys = true ↔ ∀ i k,i < xs.length → k < xs.length → (at0 xs i = at0 xs k ↔ at0 ys i = at0 ys k):=by
 unfold eqsB
 simp only [List.all_eq_true,List.mem_range,beq_iff_eq,decide_eq_decide]
 exact ⟨fun h i k hi hk=>h i hi k hk,fun h i hi k hk=>h i k hi hk⟩
theorem predB_iff {p q : Pd} {xs ys : List Nat} : predB A B p q xs ys = true ↔ (p.ar = 0 → bitAt p 0 = bitAt q 0) ∧ (p.ar = 1 → ∀ k,k < xs.length → bitAt p (at0 xs k) = bitAt q (at0 ys k)) ∧
  (p.ar = 2 → ∀ k m,k < xs.length → m < xs.length → bitAt p (at0 xs k + at0 xs m * A) = bitAt q (at0 ys k + at0 ys m * B)):=by
 unfold predB
 by_cases h0 : p.ar = 0
 ·simp [h0]
 by_cases h1 : p.ar = 1
 ·simp [h1]
 by_cases h2 : p.ar = 2
 ·simp only [h2,List.all_eq_true,List.mem_range,beq_iff_eq]
  simp
  exact ⟨fun h i k hi hk=>h i hi k hk,fun h i hi k hk=>h i k hi hk⟩
 simp [h0,h1,h2]
theorem fitB_iff {xs ys : List Nat} : fitB A B P Q xs ys = true ↔ eqsB xs ys = true ∧ predsB A B P Q xs ys = true:=by rw [fitB,Bool.and_eq_true]
theorem winF_fit {r : Nat} {xs ys : List Nat} (h : winF A B P Q r xs ys = true) : fitB A B P Q xs ys = true:=by
 cases r with
 | zero=>exact h
 | succ r=>rw [winF,Bool.and_eq_true] at h;exact h.1
theorem winF_iff {r : Nat} {xs ys : List Nat} : winF A B P Q (r + 1) xs ys = true ↔ fitB A B P Q xs ys = true ∧ (∀ x < A,∃ y < B,winF A B P Q r (xs ++ [x]) (ys ++ [y]) = true) ∧ ∀ y < B,∃ x < A,winF A B P Q r (xs ++ [x]) (ys ++ [y]) = true:=by
 rw [winF,Bool.and_eq_true,Bool.and_eq_true]
 simp only [List.all_eq_true,List.any_eq_true,List.mem_range]
end
end Go.Proofs.Ytfhakdonenhnbaa
