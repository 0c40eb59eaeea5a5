import Derived.Test.YtcllmionhlmjfaaGFaN
import Derived.Test.YtcllmionhlmjfaaGPvPan
import Derived.Test.YtcllmionhlmjfaaGTy
import Derived.Ground.NamesProg
import Derived.Shelf.Strings.OnBuilder
set_option linter.unusedVariables false
set_option linter.unusedSimpArgs false
set_option maxRecDepth 100000
set_option maxHeartbeats 4000000
namespace Go.Proofs.Ytcllmionhlmjfaa
open Go Go.Pv
def stepW : Nd → WS → RW
 | .w x => wordH x.nm x.args.length
 | .e x => exprH x.k x.nm x.words.length x.kids.length
def foldW : List Nd → WS → RW
 | [],s => .ok s
 | x :: r,s => match stepW x s with
  | .ok s1 => foldW r s1
  | .error e => .error e
theorem foldW_app (a b : List Nd) (s : WS) : foldW (a ++ b) s = match foldW a s with
  | .ok s1 => foldW b s1
  | .error e => .error e := by
 induction a generalizing s with
 | nil => rfl
 | cons x r ih =>
  rw [List.cons_append,foldW,foldW]
  cases stepW x s with
  | ok s1 => exact ih s1
  | error e => rfl
theorem wordsW_fold (l : List Wd) (ih : ∀ w ∈ l,∀ s,wordW w s = foldW (ndW w) s) : ∀ s,wordsW l s = foldW (ndWs l) s := by
 induction l with
 | nil => intro s; rw [wordsW,ndWs_nil,foldW]
 | cons w r ihr =>
  intro s
  rw [wordsW,ndWs,foldW_app,← ih w (by simp) s]
  dsimp only
  cases wordW w s with
  | ok s1 => exact ihr (fun w hw => ih w (by simp [hw])) s1
  | error e => rfl
theorem wordW_fold (w : Wd) : ∀ s,wordW w s = foldW (ndW w) s := by
 induction w using Wd.ind with
 | h w ih =>
  intro s
  rw [wordW_eq,ndW_eq,foldW,stepW]
  cases wordH w.nm w.args.length s with
  | ok s1 => exact wordsW_fold _ ih s1
  | error e => rfl
theorem exprsW_fold (l : List Ex) (ih : ∀ w ∈ l,∀ s,exprW w s = foldW (ndE w) s) : ∀ s,exprsW l s = foldW (ndEs l) s := by
 induction l with
 | nil => intro s; rw [exprsW,ndEs_nil,foldW]
 | cons w r ihr =>
  intro s
  rw [exprsW,ndEs,foldW_app,← ih w (by simp) s]
  dsimp only
  cases exprW w s with
  | ok s1 => exact ihr (fun w hw => ih w (by simp [hw])) s1
  | error e => rfl
theorem exprW_fold (e : Ex) : ∀ s,exprW e s = foldW (ndE e) s := by
 induction e using Ex.ind with
 | h e ih =>
  intro s
  rw [exprW_eq,ndE_eq,foldW,stepW]
  cases exprH e.k e.nm e.words.length e.kids.length s with
  | ok s1 =>
   dsimp only
   rw [foldW_app,← wordsW_fold _ (fun w _ => wordW_fold w) s1]
   cases wordsW e.words s1 with
   | ok s2 => exact exprsW_fold _ ih s2
   | error e => rfl
  | error e => rfl
def encW (b : Bool) (nm : ByteArray) : ByteArray := (if b = true then (⟨#[102]⟩ : ByteArray) else ⟨#[112]⟩) ++ nm
theorem name_notbig {nm : ByteArray} (h : isNameB nm = true) : isBigB nm = false := by
 unfold isNameB at h
 rw [Bool.and_eq_true,decide_eq_true_eq] at h
 rw [isBig_eq (by omega)]
 have h2 : letterB nm[0] = true := by
  have := h.2
  rw [← List.drop_zero (l := nm.data.toList),all_at (by omega),Bool.and_eq_true] at this
  exact this.1
 have : capB nm[0] = false := by
  unfold letterB at h2
  unfold capB
  rw [decide_eq_true_eq] at h2
  rw [decide_eq_false_iff_not]; omega
 rw [this,Bool.and_false,Bool.false_and]
theorem stepW_eq (x : Nd) (s : WS) (h : s.1 ≠ 200) : stepW x s = match chkN x with
  | .error c => .error ((c,s.1),(s.1 + 1,s.2))
  | .ok none => .ok (s.1 + 1,s.2)
  | .ok (some (b,nm,c)) => manyW s.1 (encW b nm) c (s.1 + 1,s.2) := by
 cases x with
 | w x =>
  rw [stepW,chkN,wordH,chkW,if_neg h]
  by_cases h1 : isNameB x.nm = true
  ·have hnb := name_notbig h1
   rw [if_pos h1,if_neg (c := isBigB x.nm = true) (by rw [hnb]; decide),if_pos h1]
   by_cases h2 : 0 < x.args.length
   ·rw [if_pos h2,if_pos h2]
   ·rw [if_neg h2,if_neg h2]
  ·rw [if_neg h1,if_neg h1]
   by_cases h2 : isBigB x.nm = true
   ·rw [if_pos h2,if_pos h2]; rfl
   ·rw [if_neg h2,if_neg h2]
 | e x =>
  rw [stepW,chkN,exprH,chkX,if_neg h]
  by_cases h1 : x.k < 1 ∨ 10 < x.k
  ·rw [if_pos h1,if_pos h1]
  rw [if_neg h1,if_neg h1]
  by_cases h2 : (0 ≤ wordsN x.k ∧ (x.words.length : Int) ≠ wordsN x.k) ∨ (x.kids.length : Int) ≠ kidsX x.k
  ·rw [if_pos h2,if_pos h2]
  rw [if_neg h2,if_neg h2]
  by_cases h3 : x.k = 1
  ·rw [if_pos h3,if_pos h3]
   by_cases h4 : isBigB x.nm = true
   ·rw [if_pos h4,if_pos h4]; rfl
   ·rw [if_neg h4,if_neg h4]
  rw [if_neg h3,if_neg h3]
  by_cases h4 : x.k = 9 ∨ x.k = 10
  ·rw [if_pos h4,if_pos h4]
   by_cases h5 : isNameB x.nm = true
   ·rw [if_pos h5,if_pos h5]
   ·rw [if_neg h5,if_neg h5]
  rw [if_neg h4,if_neg h4]
  by_cases h5 : x.nm = ⟨#[]⟩
  ·rw [if_pos h5,if_pos h5]
  ·rw [if_neg h5,if_neg h5]
theorem stepW_200 (x : Nd) (s : WS) (h : s.1 = 200) : stepW x s = .error ((2,0),s) := by
 cases x with
 | w x => rw [stepW,wordH,if_pos h]
 | e x => rw [stepW,exprH,if_pos h]
theorem chkN_size {x : Nd} {b : Bool} {nm : ByteArray} {c : Nat} (h : chkN x = .ok (some (b,nm,c))) : nm.size ≤ 8 := by
 have big : ∀ nm,isBigB nm = true → nm.size ≤ 8 := fun nm h => by
  unfold isBigB at h
  simp only [Bool.and_eq_true,decide_eq_true_eq] at h
  omega
 cases x with
 | w x =>
  rw [chkN,chkW] at h
  split at h
  ·rename_i hb; cases h; exact big _ hb
  split at h
  ·split at h <;> cases h
  ·cases h
 | e x =>
  rw [chkN,chkX] at h
  split at h
  ·cases h
  split at h
  ·cases h
  split at h
  ·split at h
   ·rename_i hb; cases h; exact big _ hb
   ·cases h
  split at h
  ·split at h <;> cases h
  split at h <;> cases h
theorem app_inj {a b x y : ByteArray} (hs : a.size = b.size) (h : a ++ x = b ++ y) : a = b ∧ x = y := by
 have h1 := congrArg (fun z : ByteArray => z.data.toList) h
 simp only [ByteArray.data_append,Array.toList_append] at h1
 obtain ⟨h2,h3⟩ := List.append_inj h1 hs
 exact ⟨ByteArray.ext (Array.toList_inj.1 h2),ByteArray.ext (Array.toList_inj.1 h3)⟩
theorem encW_inj {b b' : Bool} {nm nm' : ByteArray} (h : encW b nm = encW b' nm') : b = b' ∧ nm = nm' := by
 unfold encW at h
 obtain ⟨h1,h2⟩ := app_inj (by cases b <;> cases b' <;> rfl) h
 refine ⟨?_,h2⟩
 cases b <;> cases b' <;> first | rfl | (revert h1; decide)
theorem encR_inj {b b' : Bool} {nm nm' : ByteArray} (h : encR b nm = encR b' nm') : b = b' ∧ nm = nm' := by
 unfold encR at h
 obtain ⟨h1,h2⟩ := app_inj (by cases b <;> cases b' <;> rfl) h
 refine ⟨?_,h2⟩
 cases b <;> cases b' <;> first | rfl | (revert h1; decide)
abbrev AK := List ((Bool × ByteArray) × Int)
def spW (A : AK) : List (ByteArray × Int) := A.map fun p => (encW p.1.1 p.1.2,p.2)
def spR (A : AK) : List (ByteArray × Int) := A.map fun p => (encR p.1.1 p.1.2,p.2)
theorem look_sp (b : Bool) (nm : ByteArray) : ∀ A : AK,lookI (encW b nm) (spW A) = lookI (encR b nm) (spR A)
 | [] => rfl
 | p :: r => by
  have ih := look_sp b nm r
  show lookI _ ((encW p.1.1 p.1.2,p.2) :: spW r) = lookI _ ((encR p.1.1 p.1.2,p.2) :: spR r)
  rw [lookI,lookI,ih]
  by_cases h : encW b nm = encW p.1.1 p.1.2
  ·obtain ⟨rfl,rfl⟩ := encW_inj h
   rw [if_pos rfl,if_pos rfl]
  ·rw [if_neg h,if_neg fun h2 => h (by obtain ⟨rfl,rfl⟩ := encR_inj h2; rfl)]
def Uniq (L : List (ByteArray × Int)) : Prop := (L.map (·.1)).Nodup
theorem look_none {key : ByteArray} : ∀ {L : List (ByteArray × Int)},lookI key L = none → key ∉ L.map (·.1)
 | [],_ => by simp
 | p :: r,h => by
  unfold lookI at h
  split at h
  ·cases h
  ·rename_i hk
   simp only [List.map_cons,List.mem_cons,not_or]
   exact ⟨hk,look_none h⟩
theorem lastIx_none {key : ByteArray} : ∀ (L : List (ByteArray × Int)) (j : Nat) (acc : Int),key ∉ L.map (·.1) → lastIx key L j acc = acc
 | [],j,acc,_ => rfl
 | p :: r,j,acc,h => by
  simp only [List.map_cons,List.mem_cons,not_or] at h
  rw [lastIx,if_neg (fun e => h.1 e.symm)]
  exact lastIx_none r (j + 1) acc h.2
theorem lastIx_some {key : ByteArray} {m : Int} : ∀ (L : List (ByteArray × Int)) (j : Nat) (acc : Int),Uniq L → lookI key L = some m → ∃ k,lastIx key L j acc = ((j + k : Nat) : Int) ∧ L[k]? = some (key,m)
 | [],j,acc,_,h => by cases h
 | p :: r,j,acc,hu,h => by
  unfold Uniq at hu
  rw [List.map_cons,List.nodup_cons] at hu
  unfold lookI at h
  rw [lastIx]
  split at h
  ·rename_i hk
   cases h
   rw [if_pos hk.symm,lastIx_none r _ _ (hk ▸ hu.1)]
   exact ⟨0,rfl,by rw [List.getElem?_cons_zero,hk]⟩
  ·rename_i hk
   rw [if_neg (fun e => hk e.symm)]
   obtain ⟨k,h1,h2⟩ := lastIx_some r (j + 1) acc hu.2 h
   exact ⟨k + 1,by rw [h1]; congr 1; omega,h2⟩
def fltW : RW → Int × Int
 | .ok _ => (0,0)
 | .error (er,_) => (er.1,(er.2 : Int))
theorem fold_ref : ∀ (l : List Nd) (i : Nat) (A : AK),Uniq (spR A) → fltW (foldW l (i,spW A)) = refF l i (spR A)
 | [],i,A,_ => rfl
 | x :: r,i,A,hu => by
  rw [foldW,refF]
  by_cases h : i = 200
  ·rw [stepW_200 x _ h,if_pos h]; rfl
  rw [stepW_eq x (i,spW A) h,if_neg h]
  cases hc : chkN x with
  | error c => rfl
  | ok o =>
   cases o with
   | none => exact fold_ref r (i + 1) A hu
   | some q =>
    obtain ⟨b,nm,c⟩ := q
    dsimp only
    unfold manyW
    dsimp only
    rw [look_sp]
    cases hk : lookI (encR b nm) (spR A) with
    | none =>
     have h1 := lastIx_none (spR A) 0 (-1) (look_none hk)
     rw [h1,if_pos (by decide)]
     dsimp only
     have e1 : spW A ++ [(encW b nm,(c : Int))] = spW (A ++ [((b,nm),(c : Int))]) := by simp [spW]
     have e2 : spR A ++ [(encR b nm,(c : Int))] = spR (A ++ [((b,nm),(c : Int))]) := by simp [spR]
     rw [e1,e2]
     refine fold_ref r (i + 1) _ ?_
     rw [← e2]
     unfold Uniq at hu ⊢
     rw [List.map_append,List.nodup_append]
     refine ⟨hu,by simp,?_⟩
     intro a ha b' hb'
     simp only [List.map_cons,List.map_nil,List.mem_singleton] at hb'
     subst hb'
     exact fun e => look_none hk (e ▸ ha)
    | some m =>
     obtain ⟨k,h1,h2⟩ := lastIx_some (spR A) 0 (-1) hu hk
     rw [h1,if_neg (by omega),Int.toNat_natCast,Nat.zero_add,h2]
     dsimp only [Option.map_some,Option.getD_some]
     by_cases hm : m = (c : Int)
     ·rw [if_pos hm,if_pos hm]
      exact fold_ref r (i + 1) A hu
     ·rw [if_neg hm,if_neg hm]; rfl
theorem refF_take : ∀ (l : List Nd) (n i : Nat) (A : List (ByteArray × Int)),i ≤ 200 → 201 ≤ i + n → refF (l.take n) i A = refF l i A
 | [],n,i,A,_,_ => by rw [List.take_nil]
 | x :: r,0,i,A,h1,h2 => by omega
 | x :: r,n + 1,i,A,h1,h2 => by
  rw [List.take_succ_cons,refF,refF]
  by_cases h : i = 200
  ·rw [if_pos h,if_pos h]
  rw [if_neg h,if_neg h]
  have ih := fun A => refF_take r n (i + 1) A (by omega) (by omega)
  cases chkN x with
  | error c => rfl
  | ok o =>
   cases o with
   | none => exact ih A
   | some q => simp only [ih]
theorem check_ref (e : Ex) : refF ((ndE e).take 202) 0 [] = checkX e := by
 rw [refF_take _ _ _ _ (by decide) (by decide)]
 have h := fold_ref (ndE e) 0 [] (by simp [Uniq,spR])
 rw [show spR [] = [] from rfl,show spW [] = [] from rfl,← exprW_fold] at h
 rw [← h]
 unfold fltW checkX
 cases exprW e (0,[]) <;> rfl
def x72 : XC := .seq (.reg [⟨some 1,.box 57 (.tmp 0),none⟩,⟨some 2,.alloc 29,none⟩]) (.seq (.reg [⟨some 3,.load 57 (.tmp 1),none⟩,⟨some 4,.buildSlice 55 1 #[(0,.tmp 3)],none⟩,⟨some 5,.call ⟨.value (.func 100),#[.tmp 4,.const (.int .i64 201)],#[55,3]⟩,none⟩,⟨some 6,.call ⟨.value (.func 99),#[.tmp 5],#[135]⟩,none⟩,⟨none,.store 29 (.tmp 2) (.tmp 6),none⟩]) .ret)
@[simp] theorem x72_s {C e s K} : type_of% (@X_at C e s K _ _ x72.eq_1) := X_at x72.eq_1
def an72 : Ann := ⟨[],[],[]⟩
theorem fi72 : FI Try.prog 72 (cxA an72) x72 [.cell 2 29] Try.f72 := fiA Try.func72 mixed
theorem ExprFault_ref (e : Ex) : CallOK Try.prog 72 [.agg (exr e)] [] (.agg [.int .i64 (checkX e).1,.int .i64 (checkX e).2]) [] := by
 have h1 := nodesOf_of [e] (fun w _ => nodesOf_ref w) 202 (by decide)
 rw [ndEs,ndEs_nil,List.append_nil] at h1
 have h2 := faultOf_ref ((ndE e).take 202) (by rw [List.length_take]; omega) (fun x _ b nm c h => chkN_size h)
 rw [check_ref] at h2
 generalize (ndE e).take 202 = L at *
 generalize checkX e = q at *
 refine fi72.op ?_
 (refine Sg.h ?_;try repeat' ((with_reducible first|refine brA ?_|refine brE fun _=>?_|refine spl ⟨?_,?_⟩<;>intro _)<;> ((try simp -implicitDefEqProofs); (try simp -implicitDefEqProofs(disch:=first|assumption|(try simp only[lens]);omega -splitDisjunctions)))))
 refine CL.giv [2] ?_
 (refine Sg.h ?_;try repeat' ((first | (with_reducible first|refine brA ?_|refine brE fun _=>?_|refine spl ⟨?_,?_⟩<;>intro _) | refine clo h1 ?_ | refine clo h2 ?_) <;> ((try simp -implicitDefEqProofs); (try simp -implicitDefEqProofs(disch:=first|assumption|(try simp only[lens]);omega -splitDisjunctions)))))
def x31 : XC := .seq (.reg [⟨some 2,.alloc 57,none⟩,⟨some 3,.alloc 29,none⟩]) (.seq (.seq (.reg [⟨some 11,.move (.tmp 0),none⟩,⟨some 12,.call ⟨.builtin .len,#[.tmp 11],#[9]⟩,none⟩,⟨some 13,.binOp .gtr 3 (.tmp 12) (.const (.int .i64 20000)) 3,none⟩]) (.cond (.tmp 13) (.seq (.reg [⟨some 14,.build 57 #[],none⟩,⟨some 15,.call ⟨.value (.func 45),#[.const (.int .i64 2),.const (.int .i64 0)],#[3,3]⟩,none⟩,⟨none,.store 57 (.tmp 2) (.tmp 14),none⟩,⟨none,.store 29 (.tmp 3) (.tmp 15),none⟩]) .ret) .skip)) (.seq (.reg [⟨some 17,.move (.tmp 0),none⟩,⟨some 18,.call ⟨.value (.func 70),#[.tmp 17,.const (.int .i64 0),.const (.int .i64 1)],#[9,3,3]⟩,none⟩,⟨some 16,.move (.tmp 18),none⟩,⟨some 19,.extract (.tmp 16) 0,none⟩,⟨some 20,.extract (.tmp 16) 1,none⟩,⟨some 21,.extract (.tmp 16) 2,none⟩,⟨some 4,.alloc 57,none⟩,⟨none,.store 57 (.tmp 4) (.tmp 19),none⟩,⟨some 5,.assign (.tmp 20),none⟩,⟨some 6,.assign (.tmp 21),none⟩]) (.seq (.seq (.reg [⟨some 22,.move (.tmp 6),none⟩,⟨some 23,.binOp .lss 3 (.tmp 22) (.const (.int .i64 0)) 3,none⟩]) (.cond (.tmp 23) (.seq (.reg [⟨some 25,.move (.tmp 0),none⟩,⟨some 26,.move (.tmp 5),none⟩,⟨some 27,.call ⟨.value (.func 71),#[.tmp 25,.tmp 26],#[9,3]⟩,none⟩,⟨some 24,.move (.tmp 27),none⟩,⟨some 28,.extract (.tmp 24) 0,none⟩,⟨some 29,.extract (.tmp 24) 1,none⟩,⟨some 30,.extract (.tmp 24) 2,none⟩,⟨some 7,.assign (.tmp 28),none⟩,⟨some 8,.assign (.tmp 29),none⟩,⟨some 9,.assign (.tmp 30),none⟩]) (.seq (.reg [⟨some 31,.move (.tmp 7),none⟩,⟨some 32,.binOp .neq 9 (.tmp 31) (.const (.string ⟨#[]⟩)) 9,none⟩]) (.cond (.tmp 32) (.reg [⟨some 33,.move (.tmp 8),none⟩,⟨some 6,.assign (.tmp 33),none⟩]) .skip))) .skip)) (.seq (.seq (.reg [⟨some 34,.move (.tmp 6),none⟩,⟨some 35,.binOp .geq 3 (.tmp 34) (.const (.int .i64 0)) 3,none⟩]) (.cond (.tmp 35) (.seq (.reg [⟨some 36,.build 57 #[],none⟩,⟨some 37,.move (.tmp 6),none⟩,⟨some 38,.call ⟨.value (.func 45),#[.const (.int .i64 1),.tmp 37],#[3,3]⟩,none⟩,⟨none,.store 57 (.tmp 2) (.tmp 36),none⟩,⟨none,.store 29 (.tmp 3) (.tmp 38),none⟩]) .ret) .skip)) (.seq (.reg [⟨some 39,.load 57 (.tmp 4),none⟩,⟨some 40,.call ⟨.value (.func 72),#[.tmp 39],#[57]⟩,none⟩,⟨some 10,.alloc 29,none⟩,⟨none,.store 29 (.tmp 10) (.tmp 40),none⟩]) (.seq (.seq (.reg [⟨some 41,.fieldAddr 29 (.tmp 10) 0,none⟩,⟨some 42,.load 3 (.tmp 41),none⟩,⟨some 43,.binOp .neq 3 (.tmp 42) (.const (.int .i64 0)) 3,none⟩]) (.cond (.tmp 43) (.seq (.drawn 12 [⟨some 44,.build 57 #[],none⟩,⟨some 45,.load 29 (.tmp 10),none⟩,⟨none,.store 57 (.tmp 2) (.tmp 44),none⟩,⟨none,.store 29 (.tmp 3) (.tmp 45),none⟩]) .ret) .skip)) (.seq (.drawn 13 [⟨some 46,.load 57 (.tmp 4),none⟩,⟨some 47,.load 29 (.tmp 10),none⟩,⟨none,.store 57 (.tmp 2) (.tmp 46),none⟩,⟨none,.store 29 (.tmp 3) (.tmp 47),none⟩]) .ret)))))))
@[simp] theorem x31_s {C e s K} : type_of% (@X_at C e s K _ _ x31.eq_1) := X_at x31.eq_1
def an31 : Ann := ⟨[(12,.mix3 2 1),(13,.mix3 2 1)],[],[]⟩
@[simp] theorem an31_a : an31.clsOf 12 = .mix3 2 1 ∧ an31.clsOf 13 = .mix3 2 1 ∧ an31.frzOf 12 = [] ∧ an31.frzOf 13 = [] := ⟨rfl,rfl,rfl,rfl⟩
theorem fi31 : FI Try.prog 31 (cxA an31) x31 [.cell 2 57,.cell 3 29] Try.f31 := fiA Try.func31 mixed
theorem ReadExpr_ref (t : ByteArray) : CallOK Try.prog 31 [.str t] [] (.tuple [.agg (exr (parseX t).1),.agg [.int .i64 (parseX t).2.1,.int .i64 (parseX t).2.2]]) [] := by
 have f2 := F_ref 2 0
 refine fi31.os ?_
 unfold parseX
 by_cases hm : 20000 < t.size
 ·rw [if_pos hm]
  have hm' : (20000 : Int) < (t.size : Int) := by omega
  (refine Sg.h ?_;try repeat' ((first | (with_reducible first|refine brA ?_|refine brE fun _=>?_|refine spl ⟨?_,?_⟩<;>intro _) | refine clo f2 ?_) <;> ((try simp -implicitDefEqProofs [hm',exr_zEx]); (try simp -implicitDefEqProofs(disch:=first|assumption|(try simp only[lens]);omega -splitDisjunctions) [hm',exr_zEx]))))
 ·rw [if_neg hm]
  have hm' : ¬ (20000 : Int) < (t.size : Int) := by omega
  have hs : t.size ≤ 1000000 := by omega
  rw [← readC_eq t hs]
  obtain ⟨P,hP⟩ : ∃ P,readC t = P := ⟨_,rfl⟩
  rw [hP]
  obtain ⟨g0,c0,a0⟩ := P
  dsimp only
  obtain ⟨z,hc⟩ := exprAt_ref t hs (t.size + 1) 0 1 (by omega) (by omega) (by decide) (by decide)
  unfold readC at hP
  cases hcc : xclimbF t (t.size + 1) 0 1 with
  | error q =>
   rw [hcc] at hc hP
   cases hP
   have f1 := F_ref 1 q
   unfold valR at hc
   dsimp only [eX] at hc
   rw [if_pos (by decide)]
   (refine Sg.h ?_;try repeat' ((first | (with_reducible first|refine brA ?_|refine brE fun _=>?_|refine spl ⟨?_,?_⟩<;>intro _) | refine clo hc ?_ | refine clo f1 ?_) <;> ((try simp -implicitDefEqProofs [hm',exr_zEx]); (try simp -implicitDefEqProofs(disch:=first|assumption|(try simp only[lens]);omega -splitDisjunctions) [hm',exr_zEx]))))
   all_goals omega
  | ok y =>
   obtain ⟨g,e⟩ := y
   rw [hcc] at hc hP
   dsimp only at hP
   have hcl := xclimb_le t _ 0 1 g e (by omega) hcc
   have ht := sign_ref t e hs hcl.2
   have f1 := F_ref 1 (xtokF t e).2.1
   have hw := ExprFault_ref g
   unfold valR at hc
   dsimp only [eX] at hc
   by_cases hu : (xtokF t e).1 = ⟨#[]⟩
   ·rw [if_neg (by simp [hu])] at hP
    cases hP
    rw [hu] at ht
    generalize (xtokF t e).2.1 = a at *
    generalize (xtokF t e).2.2 = b at *
    rw [if_neg (by decide)]
    by_cases hk : (checkX g0).1 = 0
    ·rw [if_neg (by simp [hk])]
     rw [checkX_zero hk] at hw
     have hg := exr_eq g0
     (refine Sg.h ?_;try repeat' ((first | (with_reducible first|refine brA ?_|refine brE fun _=>?_|refine spl ⟨?_,?_⟩<;>intro _) | refine clo hc ?_ | refine clo ht ?_ | refine clo hw ?_) <;> ((try simp -implicitDefEqProofs [hm']); (try simp -implicitDefEqProofs(disch:=first|assumption|(try simp only[lens]);omega -splitDisjunctions) [hm']))))
    ·rw [if_pos hk]
     generalize checkX g0 = q at *
     obtain ⟨c2,a2⟩ := q
     dsimp only at *
     (refine Sg.h ?_;try repeat' ((first | (with_reducible first|refine brA ?_|refine brE fun _=>?_|refine spl ⟨?_,?_⟩<;>intro _) | refine clo hc ?_ | refine clo ht ?_ | refine clo hw ?_) <;> ((try simp -implicitDefEqProofs [hm',hk,exr_zEx]); (try simp -implicitDefEqProofs(disch:=first|assumption|(try simp only[lens]);omega -splitDisjunctions) [hm',hk,exr_zEx]))))
   ·rw [if_pos hu] at hP
    cases hP
    rw [if_pos (by decide)]
    generalize (xtokF t e).1 = u at *
    generalize (xtokF t e).2.1 = a at *
    generalize (xtokF t e).2.2 = b at *
    (refine Sg.h ?_;try repeat' ((first | (with_reducible first|refine brA ?_|refine brE fun _=>?_|refine spl ⟨?_,?_⟩<;>intro _) | refine clo hc ?_ | refine clo ht ?_ | refine clo f1 ?_) <;> ((try simp -implicitDefEqProofs [hm',hu,exr_zEx]); (try simp -implicitDefEqProofs(disch:=first|assumption|(try simp only[lens]);omega -splitDisjunctions) [hm',hu,exr_zEx]))))
    all_goals omega
end Go.Proofs.Ytcllmionhlmjfaa
namespace Go.Proofs
open Go.Shelf
def Try.laysJoin_ren : Go.Shelf.Ren := ⟨fun | 156 => 134 | 165 => 148 | 166 => 149 | 169 => 150 | 240 => 160 | 241 => 161 | 276 => 165 | 277 => 166 | n => n,fun | 31 => 65 | 9 => 9 | 3 => 3 | 4 => 4 | 0 => 0 | 20 => 20 | 72 => 179 | 76 => 182 | 70 => 176 | 37 => 177 | 75 => 181 | 127 => 193 | 164 => 199 | 5 => 5 | 80 => 184 | n => n,fun | n => n⟩
theorem Try.laysJoin : Go.Proofs.Lays.n156 Try.prog Try.laysJoin_ren := {
 mixed := by kernel_rfl,
 f156 := Try.func134.trans (congrArg some (by kernel_rfl)),
 f165 := Try.func148.trans (congrArg some (by kernel_rfl)),
 f166 := Try.func149.trans (congrArg some (by kernel_rfl)),
 f169 := Try.func150.trans (congrArg some (by kernel_rfl)),
 f240 := Try.func160.trans (congrArg some (by kernel_rfl)),
 f241 := Try.func161.trans (congrArg some (by kernel_rfl)),
 f276 := Try.func165.trans (congrArg some (by kernel_rfl)),
 f277 := Try.func166.trans (congrArg some (by kernel_rfl)),
 t0 := Try.underlying0,
 a0 := Try.isAgg0,
 z0 := Try.sizeOf0,
 v0 := Try.zeroValue0,
 t3 := Try.underlying3,
 a3 := Try.isAgg3,
 z3 := Try.sizeOf3,
 v3 := Try.zeroValue3,
 t4 := Try.underlying4,
 a4 := Try.isAgg4,
 z4 := Try.sizeOf4,
 v4 := Try.zeroValue4,
 t9 := Try.underlying9,
 a9 := Try.isAgg9,
 z9 := Try.sizeOf9,
 v9 := Try.zeroValue9,
 t20 := Try.underlying20,
 a20 := Try.isAgg20,
 z20 := Try.sizeOf20,
 v20 := Try.zeroValue20,
 t31 := Try.underlying65,
 a31 := Try.isAgg65,
 z31 := Try.sizeOf65,
 v31 := Try.zeroValue65,
 t37 := Try.underlying177,
 a37 := Try.isAgg177,
 z37 := Try.sizeOf177,
 v37 := Try.zeroValue177,
 t70 := Try.underlying176,
 a70 := Try.isAgg176,
 z70 := Try.sizeOf176,
 v70 := Try.zeroValue176,
 t72 := Try.underlying179,
 a72 := Try.isAgg179,
 z72 := Try.sizeOf179,
 v72 := Try.zeroValue179,
 t75 := Try.underlying181,
 a75 := Try.isAgg181,
 z75 := Try.sizeOf181,
 v75 := Try.zeroValue181,
 t76 := Try.underlying182,
 a76 := Try.isAgg182,
 z76 := Try.sizeOf182,
 v76 := Try.zeroValue182,
 t127 := Try.underlying193,
 a127 := Try.isAgg193,
 z127 := Try.sizeOf193,
 v127 := Try.zeroValue193,
 t164 := Try.underlying199,
 a164 := Try.isAgg199,
 z164 := Try.sizeOf199,
 v164 := Try.zeroValue199 }
theorem Try.joinExtra : Builder.Extra Try.prog Try.laysJoin_ren := {
 sizeBuilder := by kernel_rfl,
 liesBuilder := by kernel_rfl,
 t5 := Try.underlying5,
 a5 := Try.isAgg5,
 z5 := Try.sizeOf5,
 v5 := Try.zeroValue5,
 infoByte := by kernel_rfl,
 cellsByte := by kernel_rfl,
 sizeByte := by kernel_rfl,
 neB5 := by decide }
end Go.Proofs
namespace Go.Pv
open Go Go.Proofs Go.RowKit
set_option linter.unusedVariables false
set_option linter.unusedSimpArgs false
theorem SR.belowJ {C : Ctx} {p : PHeap} {σ : Sig} {s : Store} {w w' : World} (h : SR C p σ s w) (b : Below w.heap.size w w') : SR C p σ s w' := by
 have hlt : ∀ (k : Nat) (o : Obj),w.heap[k]? = some o → k < w.heap.size := fun k o hk => by
  rcases Nat.lt_or_ge k w.heap.size with h1 | h1
  ·exact h1
  ·rw [Array.getElem?_eq_none h1] at hk; cases hk
 exact {
  pubIn := fun k o hk => by
   have := h.pubIn k o hk
   rw [b.block k (hlt k o this)]; exact this
  obj := fun i o hi => (h.obj i o hi).mono PHeap.le.rfl' Sig.le.rfl' (fun l h1 h2 h3 => ⟨b.block _ (ObjOK.alive h.obj ⟨_,hi,h1,h2,h3⟩).2,rfl⟩)
  inj := h.inj
  sig := h.sig
  os := b.os.trans h.os
  tape := b.tape.trans h.tape
  output := b.output.trans h.output
  size := Nat.le_trans h.size b.size
  frame := fun k hk hd => by
   rw [b.block k (Nat.lt_of_lt_of_le hk h.size)]
   exact h.frame k hk hd
  own := h.own
  ple := h.ple
  sle := h.sle }
def joinB (l : List ByteArray) (sep : ByteArray) : ByteArray := ⟨(Lib.join (l.map (·.data.toList)) sep.data.toList).toArray⟩
theorem Join_strs (l : List ByteArray) (sep : ByteArray) (hn : l.length ≤ 1000000) (hj : (joinB l sep).size ≤ 1000000000) :
  CallOK Go.Proofs.Try.prog 134 [.list (l.map strRow),.str sep] [] (.str (joinB l sep)) [] := by
 intro pub σ w cargs hbase hargs
 obtain ⟨hsz,hrel⟩ := hargs
 have hsz2 : cargs.size = 2 := hsz
 obtain ⟨c1,c2,rfl⟩ : ∃ c1 c2,cargs = #[c1,c2] := ⟨cargs[0],cargs[1],by
  apply Array.ext (by simp [hsz2])
  intro i h1 h2
  simp only [List.size_toArray,List.length_cons,List.length_nil] at h2
  match i,h2 with
  | 0,_ => rfl
  | 1,_ => rfl⟩
 have r1 := hrel 0 _ c1 rfl rfl
 have r2 := hrel 1 _ c2 rfl rfl
 have hr : ∀ w',Below w.heap.size w w' → ∃ cv pub' σ',Ending.returned (.string (joinB l sep)) = .returned cv ∧ SR ⟨w,pub,σ,dom [] σ⟩ pub' σ' [] w' ∧ Rel pub' σ' (.str (joinB l sep)) cv := fun w' hb =>
  ⟨_,pub,σ,rfl,(SR.start hbase).belowJ hb,.str (Nat.le_trans hj (by decide))⟩
 cases r2 with
 | str hs2 =>
 have hlen : (Lib.join (l.map (·.data.toList)) sep.data.toList).length ≤ 140737488355328 := by
  have : (joinB l sep).size = (Lib.join (l.map (·.data.toList)) sep.data.toList).length := by
   show (Lib.join _ _).toArray.size = _
   rw [List.size_toArray]
  omega
 generalize hrows : l.map strRow = rows at r1
 cases r1 with
 | list0 hc =>
  obtain rfl : l = [] := by simpa using hrows
  refine (Any.strings_Join_none (P := Go.Proofs.Try.prog) Go.Proofs.Try.laysJoin Go.Proofs.Try.joinExtra _ _ sep w).mono ?_
  rintro e w' ⟨rfl,rfl⟩
  exact hr _ (Below.refl _ _)
 | list hb hle hcap hw hsz3 hrr =>
  rename_i b o cs ty fr esz cap
  subst hrows
  have hlt : b < w.heap.size := by
   rcases Nat.lt_or_ge b w.heap.size with h1 | h1
   ·exact h1
   ·have := hbase.pubIn b _ hb
    rw [Array.getElem?_eq_none h1] at this; cases this
  rw [List.length_map] at hle hsz3 ⊢
  have hcell : ∀ (j : Nat) x,l[j]? = some x → w.cell? ⟨b,o + j,none⟩ = some (.string x) := by
   intro j x hx
   have hrow : (l.map strRow)[j]? = some (strRow x) := by rw [List.getElem?_map,hx]; rfl
   have he : esz = 1 := (hw j _ hrow).symm
   subst he
   have hjl : j < l.length := by
    rcases Nat.lt_or_ge j l.length with h1 | h1
    ·exact h1
    ·rw [List.getElem?_eq_none h1] at hx; cases hx
   have hlt2 : o + j < cs.size := by omega
   have h3 := hrr j (strRow x) 0 (.str x) cs[o + j] hrow rfl (by rw [Nat.mul_one,Nat.add_zero]; exact Array.getElem?_eq_getElem hlt2)
   generalize hcv : cs[o + j] = cv at h3
   cases h3 with
   | str _ =>
    unfold World.cell?
    rw [hbase.pubIn b _ hb]
    simp only [Option.bind_some]
    rw [Array.getElem?_eq_getElem hlt2,hcv]
    rfl
  refine (Any.strings_Join (P := Go.Proofs.Try.prog) Go.Proofs.Try.laysJoin Go.Proofs.Try.joinExtra b o cap l sep w hcell hlt (by omega) hle hlen).mono ?_
  rintro e w' ⟨rfl,hb2⟩
  exact hr _ hb2
end Go.Pv
namespace Go.Proofs.Ytcllmionhlmjfaa
open Go Go.Pv
mutual
def wtB : Wd → ByteArray
 | .mk a [] => a
 | .mk a (x :: r) => a ++ (⟨#[40]⟩ : ByteArray) ++ joinB (wtsB (x :: r)) ⟨#[44,32]⟩ ++ (⟨#[41]⟩ : ByteArray)
def wtsB : List Wd → List ByteArray
 | [] => []
 | w :: r => wtB w :: wtsB r
end
theorem wtsB_eq (l : List Wd) : wtsB l = l.map wtB := by
 induction l with
 | nil => rw [wtsB]; rfl
 | cons f r ih => rw [wtsB,ih]; rfl
def lsB (l : List Wd) : ByteArray := joinB (l.map wtB) ⟨#[44,32]⟩
theorem wtB_eq (w : Wd) : wtB w = if w.args = [] then w.nm else w.nm ++ (⟨#[40]⟩ : ByteArray) ++ lsB w.args ++ (⟨#[41]⟩ : ByteArray) := by
 cases w with
 | mk a l =>
  cases l with
  | nil => rw [wtB]; rfl
  | cons x r => rw [wtB,wtsB_eq]; rfl
def shW (w : Wd) : Prop := ∀ x ∈ ndW w,∀ y,x = .w y → y.nm.size ≤ 8
theorem inter_len (sep : List UInt8) : ∀ xs : List (List UInt8),(sep.intercalate xs).length ≤ (xs.map List.length).sum + sep.length * (xs.length - 1)
 | [] => by simp [List.intercalate]
 | [x] => by simp [List.intercalate]
 | x :: y :: r => by
  have ih := inter_len sep (y :: r)
  have e : sep.intercalate (x :: y :: r) = x ++ sep ++ sep.intercalate (y :: r) := by
   simp [List.intercalate,List.intersperse]
  rw [e,List.length_append,List.length_append]
  simp only [List.map_cons,List.sum_cons,List.length_cons] at ih ⊢
  have : sep.length * (r.length + 1 + 1 - 1) = sep.length * (r.length + 1 - 1) + sep.length := by
   rw [show r.length + 1 + 1 - 1 = (r.length + 1 - 1) + 1 by omega,Nat.mul_add,Nat.mul_one]
  omega
theorem joinB_len (l : List ByteArray) : (joinB l ⟨#[44,32]⟩).size ≤ (l.map ByteArray.size).sum + 2 * (l.length - 1) := by
 have h := inter_len [44,32] (l.map (·.data.toList))
 have e : (joinB l ⟨#[44,32]⟩).size = (List.intercalate [44,32] (l.map (·.data.toList))).length := by
  show (Lib.join _ _).toArray.size = _
  rw [List.size_toArray]; rfl
 rw [e]
 refine Nat.le_trans h ?_
 rw [List.map_map,List.length_map]
 exact Nat.le_refl _
theorem ndW_kid {w v : Wd} (h : v ∈ w.args) : ∀ x ∈ ndW v,x ∈ ndW w := by
 intro x hx
 rw [ndW_eq,List.mem_cons]
 refine .inr ?_
 have : ∀ l : List Wd,v ∈ l → x ∈ ndWs l := by
  intro l
  induction l with
  | nil => intro h; cases h
  | cons y r ih =>
   intro h
   rw [ndWs,List.mem_append]
   rcases List.mem_cons.1 h with rfl | h
   ·exact .inl hx
   ·exact .inr (ih h)
 exact this _ h
theorem shW_kid {w v : Wd} (hw : shW w) (h : v ∈ w.args) : shW v := fun x hx y he => hw x (ndW_kid h x hx) y he
theorem lsB_len (l : List Wd) (ih : ∀ w ∈ l,(wtB w).size + 2 ≤ 12 * (ndW w).length) : (lsB l).size ≤ 12 * (ndWs l).length := by
 refine Nat.le_trans (joinB_len _) ?_
 rw [List.map_map,List.length_map]
 have : ∀ l : List Wd,(∀ w ∈ l,(wtB w).size + 2 ≤ 12 * (ndW w).length) → (l.map (ByteArray.size ∘ wtB)).sum + 2 * l.length ≤ 12 * (ndWs l).length := by
  intro l
  induction l with
  | nil => intro _; simp
  | cons w r ihr =>
   intro h
   have h1 := h w (by simp)
   have h2 := ihr fun w hw => h w (by simp [hw])
   rw [ndWs,List.length_append,List.map_cons,List.sum_cons,List.length_cons]
   simp only [Function.comp_apply]
   omega
 have := this l ih
 omega
theorem wtB_len (w : Wd) : shW w → (wtB w).size + 2 ≤ 12 * (ndW w).length := by
 induction w using Wd.ind with
 | h w ih =>
  intro hs
  have h0 : w.nm.size ≤ 8 := hs (.w w) (by rw [ndW_eq]; simp) w rfl
  have h1 := lsB_len w.args fun v hv => ih v hv (shW_kid hs hv)
  rw [wtB_eq,ndW_eq,List.length_cons]
  split
  ·omega
  ·rw [ByteArray.size_append,ByteArray.size_append,ByteArray.size_append,show (⟨#[40]⟩ : ByteArray).size = 1 from rfl,show (⟨#[41]⟩ : ByteArray).size = 1 from rfl]
   omega
def x123_T1 : XC := .seq (.reg [⟨some 18,.move (.tmp 3),none⟩,⟨some 19,.call ⟨.value (.func 134),#[.tmp 18,.const (.string ⟨#[44,32]⟩)],#[65,9]⟩,none⟩,⟨some 2,.assign (.tmp 19),none⟩]) .ret
def x123_L0 : XC := .seq (.reg [⟨some 9,.binOp .lss 3 (.tmp 8) (.tmp 7) 3,none⟩]) (.seq (.cond (.tmp 9) .skip (.exit 0)) (.seq (.block 1 (.seq (.reg [⟨some 10,.indexAddr 54 (.tmp 6) (.tmp 8),none⟩,⟨some 11,.load 103 (.tmp 10),none⟩,⟨some 5,.alloc 103,none⟩,⟨none,.store 103 (.tmp 5) (.tmp 11),none⟩]) (.reg [⟨some 12,.move (.tmp 3),none⟩,⟨some 13,.load 103 (.tmp 5),none⟩,⟨some 14,.call ⟨.value (.func 124),#[.tmp 13],#[103]⟩,none⟩,⟨some 15,.buildSlice 65 1 #[(0,.tmp 14)],none⟩,⟨some 16,.call ⟨.builtin .append,#[.tmp 12,.tmp 15],#[65,65]⟩,none⟩,⟨some 3,.assign (.tmp 16),none⟩]))) (.reg [⟨some 17,.binOp .add 3 (.tmp 8) (.const (.int .i64 1)) 3,none⟩,⟨some 8,.move (.tmp 17),none⟩])))
def x123 : XC := .seq (.reg [⟨some 2,.assign (.const (.string ⟨#[]⟩)),none⟩]) (.seq (.reg [⟨some 3,.assign (.const (.slice none 0 0)),none⟩]) (.seq (.seq (.reg [⟨some 6,.move (.tmp 0),none⟩,⟨some 7,.call ⟨.builtin .len,#[.tmp 6],#[54]⟩,none⟩,⟨some 8,.move (.const (.int .i64 0)),none⟩]) (.bloop 0 x123_L0)) (x123_T1)))
@[simp] theorem x123_s {C e s K} : type_of% (@X_at C e s K _ _ x123_T1.eq_1) ∧ type_of% (@X_at C e s K _ _ x123_L0.eq_1) ∧ type_of% (@X_at C e s K _ _ x123.eq_1) := ⟨X_at x123_T1.eq_1,X_at x123_L0.eq_1,X_at x123.eq_1⟩
def an123 : Ann := ⟨[],[(0,[(3,none,1)],[3,6,7,8],[3])],[]⟩
@[simp] theorem an123_a : an123.loopOf 0 = ([(3,none,1)],[3,6,7,8],[3]) := rfl
theorem fi123 : FI Try.prog 123 (cxA an123) x123 [.tmp 2] Try.f123 := fiA Try.func123 mixed
theorem list_first (l : List Wd) (ih : ∀ w ∈ l,CallOK Try.prog 124 [.agg (wrd w)] [] (.str (wtB w)) []) (hl : l.length ≤ 1000000) (hs : (lsB l).size ≤ 1000000000) : CallOK Try.prog 123 [.list (l.map wrd)] [] (.str (lsB l)) [] := by
 have hj := Join_strs (l.map wtB) ⟨#[44,32]⟩ (by rw [List.length_map]; exact hl) hs
 change CallOK _ _ _ _ (.str (lsB l)) _ at hj
 refine fi123.op ?_
 generalize lsB l = S at *
 (refine Sg.h ?_;try repeat' ((with_reducible first|refine brA ?_|refine brE fun _=>?_|refine spl ⟨?_,?_⟩<;>intro _)<;> ((try simp -implicitDefEqProofs); (try simp -implicitDefEqProofs(disch:=first|assumption|(try simp only[lens]);omega -splitDisjunctions)))))
 refine W_of fun Q hQ => ?_
 have main : ∀ n i,i + n = l.length → Q [(3,.sl 0 0 i),(6,.list (l.map wrd)),(7,.int .i64 (l.length : Int)),(8,.int .i64 (i : Int))] [.rows 1 (((l.take i).map wtB).map strRow)] := by
  intro n
  induction n with
  | zero =>
   intro i hi
   obtain rfl : i = l.length := by omega
   rw [List.take_of_length_le (Nat.le_refl _)]
   apply hQ
   clear hQ
   rw [List.map_map] at hj
   (refine Sg.h ?_;try repeat' ((with_reducible first|refine brA ?_|refine brE fun _=>?_|refine spl ⟨?_,?_⟩<;>intro _)<;> ((try simp -implicitDefEqProofs); (try simp -implicitDefEqProofs(disch:=first|assumption|(try simp only[lens]);omega -splitDisjunctions)))))
   refine CL.giv [0] ?_
   (refine Sg.h ?_;try repeat' ((first | (with_reducible first|refine brA ?_|refine brE fun _=>?_|refine spl ⟨?_,?_⟩<;>intro _) | refine clo hj ?_) <;> ((try simp -implicitDefEqProofs); (try simp -implicitDefEqProofs(disch:=first|assumption|(try simp only[lens]);omega -splitDisjunctions)))))
  | succ n ihn =>
   intro i hi
   have hil : i < l.length := by omega
   have ihn := ihn (i + 1) (by omega)
   have hc := ih l[i] (List.getElem_mem hil)
   rw [take_snocE hil,List.map_append,List.map_append] at ihn
   have hlen : (l.take i).length = i := by rw [List.length_take]; omega
   generalize l.take i = T at *
   subst hlen
   have hb : (T.length + 1) * 16 ≤ 140737488355328 := by omega
   apply hQ
   clear hQ
   (refine Sg.h ?_;try repeat' ((first | (with_reducible first|refine brA ?_|refine brE fun _=>?_|refine spl ⟨?_,?_⟩<;>intro _) | refine clo hc ?_) <;> ((try simp -implicitDefEqProofs [hil]); (try simp -implicitDefEqProofs(disch:=first|assumption|(try simp only[lens]);omega -splitDisjunctions) [hil]))))
   refine at2 ihn ?_ ?_ <;> simp [strRow]
 all_goals first | exact main l.length 0 (Nat.zero_add _) | (refine at2 main l.length 0 (Nat.zero_add _) ?_ ?_ <;> simp; done) | (exfalso; first | omega | (simp_all; done) | (simp_all; omega))
end Go.Proofs.Ytcllmionhlmjfaa
