import Derived.Test.YtbimioonhfhflaaDFaC
set_option linter.unusedVariables false
set_option linter.unusedSimpArgs false
set_option maxRecDepth 100000
set_option maxHeartbeats 4000000
namespace Go.Proofs.Ytbimioonhfhflaa
open Go Go.Pv
def mapI (L : List (ByteArray × Int)) : List (PV × PV):=L.map fun p=>(.str p.1,.int .i64 p.2)
def lookI (s : ByteArray) : List (ByteArray × Int) → Option Int
 | []=>none
 | p :: r=>if s = p.1 then some p.2 else lookI s r
theorem findP_int (s : ByteArray) : ∀ (L : List (ByteArray × Int)) (i : Nat),(lookI s L = none → findP (.str s) (mapI L) i = some none) ∧ ∀ m,lookI s L = some m → ∃ j,findP (.str s) (mapI L) i = some (some (i + j,.int .i64 m)) ∧ (mapI L)[j]? = some (.str s,.int .i64 m)
 | [],i=>⟨fun _=>rfl,fun m h=>by cases h⟩
 | p :: r,i=>by
  have ih:=findP_int s r (i + 1)
  by_cases h : s = p.1
  ·refine ⟨fun hn => ?_,fun m hm => ?_⟩
   ·unfold lookI at hn;rw [if_pos h] at hn;cases hn
   ·unfold lookI at hm
    rw [if_pos h] at hm
    cases hm
    refine ⟨0,?_,by simp [mapI,h]⟩
    simp [mapI,findP,keyEq,h]
  ·refine ⟨fun hn => ?_,fun m hm => ?_⟩
   ·unfold lookI at hn
    rw [if_neg h] at hn
    have:=ih.1 hn
    simpa [mapI,findP,keyEq,h] using this
   ·unfold lookI at hm
    rw [if_neg h] at hm
    obtain ⟨j,h1,h2⟩:=ih.2 m hm
    refine ⟨j + 1,?_,by simpa [mapI] using h2⟩
    rw [show i + (j + 1) = i + 1 + j by omega]
    simpa [mapI,findP,keyEq,h] using h1
theorem set_same {α : Type} : ∀ {l : List α} {j : Nat} {x : α},l[j]? = some x → l.set j x = l
 | [],j,x,h=>by simp at h
 | y :: r,0,x,h=>by simp at h;simp [h]
 | y :: r,j + 1,x,h=>by simp at h;simp [set_same h]
@[simp] theorem mapI_ren {ρ : List Nat} (L : List (ByteArray × Int)) : (mapI L).map (fun p=>(renN ρ 4 p.1,renN ρ 4 p.2)) = mapI L:=by simp [mapI]
@[simp] theorem mapI_up {ρ : List Nat} {n : Nat} (L : List (ByteArray × Int)) : (mapI L).map (fun p=>(upN ρ n p.1,upN ρ n p.2)) = mapI L:=by
 cases n <;> simp [mapI]
@[simp] theorem mapI_refs (L : List (ByteArray × Int)) : ((mapI L).flatMap fun p=>refsN 4 p.2) = []:=by
 induction L with
 | nil=>rfl
 | cons a r ih=>exact ih
theorem mapI_snoc (L : List (ByteArray × Int)) (s : ByteArray) (n : Int) : mapI L ++ [(.str s,.int .i64 n)] = mapI (L ++ [(s,n)]):=by simp [mapI]
abbrev WS:=Nat × List (ByteArray × Int)
abbrev RW:=Except ((Int × Nat) × WS) WS
def wk (s : WS) : Store:=[.rows 2 [[.int .i64 (s.1 : Int),.mapv 1]],.map (mapI s.2)]
attribute [simp] wk
@[simp] theorem rg2 : List.range 2 = [0,1]:=rfl
def ToldW (F : FuncId) (az : List PV) (s : WS) : RW → Prop
 | .ok s'=>CallOK Try.prog F (.ptr 0 0 0 :: az) (wk s) (.tuple []) (wk s')
 | .error (e,s')=>CallPan Try.prog F (.ptr 0 0 0 :: az) (wk s) (stopE e.1 e.2) (wk s')
def wW (P : Program) (rs : List ResultVar) (m : Nat) (R : RW) : Exit → AE → Store → Prop:=fun x e s=>match R with
 | .ok s'=>wfin P rs (gcFin m (.tuple []) (wk s')) x e s
 | .error (er,s')=>panFin [] m (stopE er.1 er.2) (wk s') x s
section
variable {P : Program} {rs : List ResultVar} {m : Nat} {s' : WS} {er : Int × Nat} {e : AE} {s : Store} {v : Value}
@[simp] theorem wW_on : wW P rs m (.ok s') .normal e s = FN (xres P (envOf e) s rs) (gcFin m (.tuple []) (wk s')) s:=rfl
@[simp] theorem wW_or : wW P rs m (.ok s') .ret e s = FN (xres P (envOf e) s rs) (gcFin m (.tuple []) (wk s')) s:=rfl
@[simp] theorem wW_ep : wW P rs m (.error (er,s')) (pan1 v) e s = panFin [] m (stopE er.1 er.2) (wk s') (pan1 v) s:=rfl
end
theorem told_w {az : List PV} {F : FuncId} {C : Program → Nat → WC} {x : XC} {rs : List ResultVar} {fn : Func} (i : FI Try.prog F C x rs fn) {s : WS} {R : RW} (h : X (C Try.prog 2) x (argsA 0 (.ptr 0 0 0 :: az)) (wk s) (.fany (wW (C Try.prog 2).P rs 2 R))) (hl : Nat.ble (az.length + 1) fn.ntmps = true:=by exact rfl) : ToldW F az s R:=by
 cases R with
 | ok s'=>
  have h' : X (C Try.prog 2) x (argsA 0 (.ptr 0 0 0 :: az)) (wk s) (.fin rs (gcFin 2 (.tuple []) (wk s'))):=by unfold X at h ⊢;exact h
  exact i.og (s:=wk s) h' hl
 | error q=>
  obtain ⟨er,s'⟩:=q
  have h' : X (C Try.prog 2) x (argsA 0 (.ptr 0 0 0 :: az)) (wk s) (.fpan (panFin [] 2 (stopE er.1 er.2) (wk s'))):=by unfold X at h ⊢;exact h
  exact i.pan (s:=wk s) [] h' hl
section
variable {C : WC} {f : Operand} {args : Array Operand} {d : Option Tmp} {fid : FuncId} {vs : List PV} {e : AE} {rest : Store} {s s' : WS} {K : KS} {ops : List LOp}
theorem liveW : liveS [0,1] (wk s ++ rest) [0,1] = wk s:=by simp [liveS]
theorem cl_wk [EnT C.P fid] {v : PV} (hc : CallOK C.P fid vs (wk s) v (wk s')) (hk : O C .pl ops (updA e d (upN [0,1] 4 v)) (backS [0,1] (wk s ++ rest) (wk s')) K) (hv : vs.map (renN [0,1] 4) = vs:=by simp) : CL C f args d (some (fid,vs)) ops e (wk s ++ rest) K:=by
 refine CL.sub [0,1] (s2:=wk s') (v:=v) (by rw [hv,liveW];exact hc) ?_
 exact hk
theorem cl_wkp [EnT C.P fid] {v : Value} (hc : CallPan C.P fid vs (wk s) v (wk s')) (hk : E C K (pan1 v) e (backS [0,1] (wk s ++ rest) (wk s'))) (hv : vs.map (renN [0,1] 4) = vs:=by simp) : CL C f args d (some (fid,vs)) ops e (wk s ++ rest) K:=by
 refine CL.psub [0,1] (s2:=wk s') (v:=v) (by rw [hv,liveW];exact hc) ?_
 exact hk
end
def x66 : XC:=.seq (.reg [⟨some 2,.assign (.const (.int .i64 0)),none⟩]) (.seq (.seq (.reg [⟨some 3,.move (.tmp 0),none⟩,⟨some 4,.nilCheck (.tmp 3),none⟩,⟨some 5,.fieldAddr 80 (.tmp 4) 0,none⟩,⟨some 6,.load 3 (.tmp 5),none⟩,⟨some 7,.binOp .eql 3 (.tmp 6) (.const (.int .i64 200)) 3,none⟩]) (.cond (.tmp 7) (.reg [⟨some 8,.call ⟨.value (.func 25),#[.const (.int .i64 2),.const (.int .i64 0)],#[3,3]⟩,none⟩,⟨some 9,.build 109 #[(0,.tmp 8)],none⟩,⟨some 10,.makeInterface 109 (.tmp 9),none⟩,⟨none,.panic (.tmp 10),none⟩]) .skip)) (.seq (.reg [⟨some 11,.move (.tmp 0),none⟩,⟨some 12,.nilCheck (.tmp 11),none⟩,⟨some 13,.fieldAddr 80 (.tmp 12) 0,none⟩,⟨some 14,.load 3 (.tmp 13),none⟩,⟨some 15,.binOp .add 3 (.tmp 14) (.const (.int .i64 1)) 3,none⟩,⟨some 16,.nilCheck (.tmp 11),none⟩,⟨some 17,.fieldAddr 80 (.tmp 16) 0,none⟩,⟨none,.store 3 (.tmp 17) (.tmp 15),none⟩]) (.seq (.reg [⟨some 18,.move (.tmp 0),none⟩,⟨some 19,.nilCheck (.tmp 18),none⟩,⟨some 20,.fieldAddr 80 (.tmp 19) 0,none⟩,⟨some 21,.load 3 (.tmp 20),none⟩,⟨some 22,.binOp .sub 3 (.tmp 21) (.const (.int .i64 1)) 3,none⟩,⟨some 2,.assign (.tmp 22),none⟩]) .ret)))
@[simp] theorem x66_s {C e s K} : type_of% (@X_at C e s K _ _ x66.eq_1):=X_at x66.eq_1
def an66 : Ann:=⟨[],[],[]⟩
theorem fi66 : FI Try.prog 66 (cxA an66) x66 [.tmp 2] Try.f66:=fiA Try.func66 mixed
theorem next_ok (s : WS) (h : s.1 < 200) : CallOK Try.prog 66 [.ptr 0 0 0] (wk s) (.int .i64 (s.1 : Int)) (wk (s.1 + 1,s.2)):=by
 obtain ⟨n,L⟩:=s
 have h1 : ¬ (n : Int) = 200:=by omega
 refine fi66.og ?_
 unfold wk
 (refine Sg.h ?_;try repeat' ((with_reducible first|refine brA ?_|refine brE fun _=>?_|refine spl ⟨?_,?_⟩<;>intro _)<;>((try simp -implicitDefEqProofs(disch:=first|assumption|(try simp only[lens]);omega -splitDisjunctions) [h1]))))
theorem next_pan (s : WS) (h : s.1 = 200) : CallPan Try.prog 66 [.ptr 0 0 0] (wk s) (stopE 2 0) (wk s):=by
 obtain ⟨n,L⟩:=s
 have h1 : (n : Int) = 200:=by omega
 have hf:=fault_first 2 0
 refine fi66.pan (s:=wk (n,L)) [] ?_
 unfold wk
 (refine Sg.h ?_;try repeat' ((first|(with_reducible first|refine brA ?_|refine brE fun _=>?_|refine spl ⟨?_,?_⟩<;>intro _)|refine clo hf ?_)<;>((try simp -implicitDefEqProofs(disch:=first|assumption|(try simp only[lens]);omega -splitDisjunctions) [h1,pan_fst]))))
def manyW (p : Nat) (key : ByteArray) (c : Nat) (s : WS) : RW:=match lookI key s.2 with
 | some m=>if m = (c : Int) then .ok s else .error ((5,p),s)
 | none=>.ok (s.1,s.2 ++ [(key,(c : Int))])
def x68 : XC:=.seq (.reg [⟨some 13,.move (.tmp 2),none⟩,⟨some 14,.move (.tmp 3),none⟩,⟨some 15,.binOp .add 9 (.tmp 13) (.tmp 14) 9,none⟩,⟨some 10,.assign (.tmp 15),none⟩]) (.seq (.seq (.reg [⟨some 17,.move (.tmp 0),none⟩,⟨some 18,.nilCheck (.tmp 17),none⟩,⟨some 19,.fieldAddr 80 (.tmp 18) 1,none⟩,⟨some 20,.load 67 (.tmp 19),none⟩,⟨some 21,.move (.tmp 10),none⟩,⟨some 22,.lookup 67 (.tmp 20) (.tmp 21) true,none⟩,⟨some 16,.move (.tmp 22),none⟩,⟨some 23,.extract (.tmp 16) 0,none⟩,⟨some 24,.extract (.tmp 16) 1,none⟩,⟨some 11,.assign (.tmp 23),none⟩,⟨some 12,.assign (.tmp 24),none⟩]) (.seq (.reg [⟨some 25,.move (.tmp 12),none⟩,⟨some 26,.move (.tmp 25),none⟩,⟨some 27,.move (.tmp 11),some (some 26,true)⟩,⟨some 28,.move (.tmp 4),some (some 26,true)⟩,⟨some 29,.binOp .neq 3 (.tmp 27) (.tmp 28) 3,some (some 26,true)⟩,⟨some 30,.pick (.tmp 26) (.tmp 29) (.const (.bool false)),none⟩]) (.cond (.tmp 30) (.reg [⟨some 31,.move (.tmp 1),none⟩,⟨some 32,.call ⟨.value (.func 25),#[.const (.int .i64 5),.tmp 31],#[3,3]⟩,none⟩,⟨some 33,.build 109 #[(0,.tmp 32)],none⟩,⟨some 34,.makeInterface 109 (.tmp 33),none⟩,⟨none,.panic (.tmp 34),none⟩]) .skip))) (.reg [⟨some 35,.move (.tmp 0),none⟩,⟨some 36,.nilCheck (.tmp 35),none⟩,⟨some 37,.fieldAddr 80 (.tmp 36) 1,none⟩,⟨some 38,.load 67 (.tmp 37),none⟩,⟨some 39,.move (.tmp 10),none⟩,⟨some 40,.move (.tmp 4),none⟩,⟨none,.mapUpdate 67 (.tmp 38) (.tmp 39) (.tmp 40),none⟩]))
@[simp] theorem x68_s {C e s K} : type_of% (@X_at C e s K _ _ x68.eq_1):=X_at x68.eq_1
def an68 : Ann:=⟨[],[],[]⟩
theorem fi68 : FI Try.prog 68 (cxA an68) x68 [] Try.f68:=fiA Try.func68 mixed
theorem many_first (p : Nat) (kind nm : ByteArray) (c : Nat) (s : WS) (hs : kind.size + nm.size ≤ 100000) : ToldW 68 [.int .i64 (p : Int),.str kind,.str nm,.int .i64 (c : Int)] s (manyW p (kind ++ nm) c s):=by
 obtain ⟨n,L⟩:=s
 have hf:=fault_first 5 p
 obtain ⟨f1,f2⟩:=findP_int (kind ++ nm) L 0
 refine told_w fi68 ?_
 unfold manyW
 generalize hkey : kind ++ nm = key at *
 cases hl : lookI key L with
 | none=>
  have f1:=f1 hl
  have hsn:=mapI_snoc L key c
  unfold wk
  simp only [hl]
  (refine Sg.h ?_;try repeat' ((with_reducible first|refine brA ?_|refine brE fun _=>?_|refine spl ⟨?_,?_⟩<;>intro _)<;>((try simp -implicitDefEqProofs(disch:=first|assumption|(try simp only[lens]);omega -splitDisjunctions) [hkey,f1,hsn]))))
  all_goals omega
 | some m=>
  obtain ⟨j,f3,f4⟩:=f2 m hl
  rw [Nat.zero_add] at f3
  simp only [hl]
  by_cases hm : m = (c : Int)
  ·have hset := set_same f4
   rw [if_pos hm]
   subst hm
   unfold wk
   (refine Sg.h ?_;try repeat' ((with_reducible first|refine brA ?_|refine brE fun _=>?_|refine spl ⟨?_,?_⟩<;>intro _)<;>((try simp -implicitDefEqProofs(disch:=first|assumption|(try simp only[lens]);omega -splitDisjunctions) [hkey,f3,hset]))))
   all_goals omega
  ·rw [if_neg hm]
   unfold wk
   (refine Sg.h ?_;try repeat' ((first|(with_reducible first|refine brA ?_|refine brE fun _=>?_|refine spl ⟨?_,?_⟩<;>intro _)|refine clo hf ?_)<;>((try simp -implicitDefEqProofs(disch:=first|assumption|(try simp only[lens]);omega -splitDisjunctions) [hkey,f3,hm,pan_fst]))))
   all_goals first | omega | skip
def wordH (nm : ByteArray) (c : Nat) (s : WS) : RW:=
 if s.1 = 200 then .error ((2,0),s) else if isNameB nm = true then (if 0 < c then .error ((9,s.1),(s.1 + 1,s.2)) else .ok (s.1 + 1,s.2))
 else if isBigB nm = true then manyW s.1 (⟨#[102]⟩ ++ nm) c (s.1 + 1,s.2) else .error ((8,s.1),(s.1 + 1,s.2))
mutual
def wordW : Wd → WS → RW
 | .mk nm l=>fun s=>match wordH nm l.length s with
  | .ok s1=>wordsW l s1
  | .error e=>.error e
def wordsW : List Wd → WS → RW
 | []=>fun s=>.ok s
 | w :: r=>fun s=>match wordW w s with
  | .ok s1=>wordsW r s1
  | .error e=>.error e
end
theorem wordW_eq (w : Wd) (s : WS) : wordW w s = match wordH w.nm w.args.length s with
  | .ok s1=>wordsW w.args s1
  | .error e=>.error e:=by cases w with | mk a l=>rw [wordW];rfl
theorem manyW_n {p : Nat} {key : ByteArray} {c : Nat} {s s' : WS} (h : manyW p key c s = .ok s') : s'.1 = s.1:=by
 unfold manyW at h
 split at h
 ·split at h
  ·cases h;rfl
  ·cases h
 ·cases h;rfl
theorem wordH_n {nm : ByteArray} {c : Nat} {s s' : WS} (h : wordH nm c s = .ok s') (hs : s.1 ≤ 200) : s'.1 ≤ 200:=by
 unfold wordH at h
 split at h
 ·cases h
 split at h
 ·split at h
  ·cases h
  ·cases h;simp;omega
 split at h
 ·rw [manyW_n h];simp;omega
 ·cases h
theorem wordsW_n (l : List Wd) (ih : ∀ w ∈ l,∀ s s',wordW w s = .ok s' → s.1 ≤ 200 → s'.1 ≤ 200) : ∀ s s',wordsW l s = .ok s' → s.1 ≤ 200 → s'.1 ≤ 200:=by
 induction l with
 | nil=>intro s s' h hs;rw [wordsW] at h;cases h;exact hs
 | cons w r ihr=>
  intro s s' h hs
  rw [wordsW] at h
  dsimp only at h
  split at h
  ·rename_i s1 h1
   exact ihr (fun w hw=>ih w (by simp [hw])) s1 s' h (ih w (by simp) s s1 h1 hs)
  ·cases h
theorem wordW_n (w : Wd) : ∀ s s',wordW w s = .ok s' → s.1 ≤ 200 → s'.1 ≤ 200:=by
 induction w using Wd.ind with
 | h w ih=>
  intro s s' h hs
  rw [wordW_eq] at h
  split at h
  ·rename_i s1 h1
   exact wordsW_n w.args ih s1 s' h (wordH_n h1 hs)
  ·cases h
def x42_L1 : XC:=.seq (.reg [⟨some 41,.binOp .lss 3 (.tmp 40) (.tmp 39) 3,none⟩]) (.seq (.cond (.tmp 41) .skip (.exit 1)) (.seq (.block 2 (.seq (.reg [⟨some 42,.indexAddr 26 (.tmp 38) (.tmp 40),none⟩,⟨some 43,.load 31 (.tmp 42),none⟩,⟨some 6,.alloc 31,none⟩,⟨none,.store 31 (.tmp 6) (.tmp 43),none⟩]) (.reg [⟨some 44,.move (.tmp 0),none⟩,⟨some 45,.load 31 (.tmp 6),none⟩,⟨some 46,.call ⟨.value (.func 42),#[.tmp 44,.tmp 45],#[78,31]⟩,none⟩]))) (.reg [⟨some 47,.binOp .add 3 (.tmp 40) (.const (.int .i64 1)) 3,none⟩,⟨some 40,.move (.tmp 47),none⟩])))
def x42 : XC:=.seq (.reg [⟨some 3,.box 31 (.tmp 1),none⟩]) (.seq (.reg [⟨some 7,.move (.tmp 0),none⟩,⟨some 8,.call ⟨.value (.func 66),#[.tmp 7],#[78]⟩,none⟩,⟨some 4,.assign (.tmp 8),none⟩]) (.seq (.block 0 (.seq (.reg [⟨some 14,.fieldAddr 31 (.tmp 3) 0,none⟩,⟨some 15,.load 9 (.tmp 14),none⟩,⟨some 16,.call ⟨.value (.func 24),#[.tmp 15],#[9]⟩,none⟩,⟨some 13,.assign (.tmp 16),none⟩]) (.cond (.tmp 13) (.seq (.reg [⟨some 17,.fieldAddr 31 (.tmp 3) 1,none⟩,⟨some 18,.load 26 (.tmp 17),none⟩,⟨some 19,.call ⟨.builtin .len,#[.tmp 18],#[26]⟩,none⟩,⟨some 20,.binOp .gtr 3 (.tmp 19) (.const (.int .i64 0)) 3,none⟩]) (.cond (.tmp 20) (.reg [⟨some 21,.move (.tmp 4),none⟩,⟨some 22,.call ⟨.value (.func 25),#[.const (.int .i64 9),.tmp 21],#[3,3]⟩,none⟩,⟨some 23,.build 109 #[(0,.tmp 22)],none⟩,⟨some 24,.makeInterface 109 (.tmp 23),none⟩,⟨none,.panic (.tmp 24),none⟩]) .skip)) (.seq (.reg [⟨some 26,.fieldAddr 31 (.tmp 3) 0,none⟩,⟨some 27,.load 9 (.tmp 26),none⟩,⟨some 28,.call ⟨.value (.func 47),#[.tmp 27],#[9]⟩,none⟩,⟨some 25,.assign (.tmp 28),none⟩]) (.cond (.tmp 25) (.reg [⟨some 29,.move (.tmp 0),none⟩,⟨some 30,.move (.tmp 4),none⟩,⟨some 31,.fieldAddr 31 (.tmp 3) 0,none⟩,⟨some 32,.load 9 (.tmp 31),none⟩,⟨some 33,.fieldAddr 31 (.tmp 3) 1,none⟩,⟨some 34,.load 26 (.tmp 33),none⟩,⟨some 35,.call ⟨.builtin .len,#[.tmp 34],#[26]⟩,none⟩,⟨some 36,.call ⟨.value (.func 68),#[.tmp 29,.tmp 30,.const (.string ⟨#[102]⟩),.tmp 32,.tmp 35],#[78,3,9,9,3]⟩,none⟩]) (.reg [⟨some 9,.move (.tmp 4),none⟩,⟨some 10,.call ⟨.value (.func 25),#[.const (.int .i64 8),.tmp 9],#[3,3]⟩,none⟩,⟨some 11,.build 109 #[(0,.tmp 10)],none⟩,⟨some 12,.makeInterface 109 (.tmp 11),none⟩,⟨none,.panic (.tmp 12),none⟩])))))) (.seq (.reg [⟨some 37,.fieldAddr 31 (.tmp 3) 1,none⟩,⟨some 38,.load 26 (.tmp 37),none⟩,⟨some 39,.call ⟨.builtin .len,#[.tmp 38],#[26]⟩,none⟩,⟨some 40,.move (.const (.int .i64 0)),none⟩]) (.bloop 1 x42_L1))))
@[simp] theorem x42_s {C e s K} : type_of% (@X_at C e s K _ _ x42_L1.eq_1) ∧ type_of% (@X_at C e s K _ _ x42.eq_1):=⟨X_at x42_L1.eq_1,X_at x42.eq_1⟩
def an42 : Ann:=⟨[],[(1,[],[0,38,39,40],[])],[]⟩
@[simp] theorem an42_a : an42.loopOf 1 = ([],[0,38,39,40],[]):=rfl
theorem fi42 : FI Try.prog 42 (cxA an42) x42 [] Try.f42:=fiA Try.func42 mixed
theorem word_walker (w : Wd) : ∀ s : WS,s.1 ≤ 200 → ToldW 42 [.agg (wrd w)] s (wordW w s):=by
 induction w using Wd.ind with
 | h w ih=>
  intro s hs
  have hw:=wrd_eq w
  rw [wordW_eq]
  refine told_w fi42 ?_
  have hnext:=next_ok s
  have hpan:=next_pan s
  have hn:=isName_formula w.nm []
  have hb:=IsBig_first w.nm
  have hf9:=fault_first 9 s.1
  have hf8:=fault_first 8 s.1
  unfold wordH
  by_cases h200 : s.1 = 200
  ·have hpan := hpan h200
   rw [if_pos h200]
   (refine Sg.h ?_;try repeat' ((with_reducible first|refine brA ?_|refine brE fun _=>?_|refine spl ⟨?_,?_⟩<;>intro _)<;>((try simp -implicitDefEqProofs(disch:=first|assumption|(try simp only[lens]);omega -splitDisjunctions)))))
   refine cl_wkp (rest:=[_]) hpan ?_
   (refine Sg.h ?_;try repeat' ((with_reducible first|refine brA ?_|refine brE fun _=>?_|refine spl ⟨?_,?_⟩<;>intro _)<;>((try simp -implicitDefEqProofs(disch:=first|assumption|(try simp only[lens]);omega -splitDisjunctions)))))
  have hnext:=hnext (by omega)
  rw [if_neg h200]
  -- behind the head: the loop
  have key : ∀ s1 : WS,s1.1 ≤ 200 → w.args.length ≤ 9223372036854775807 → W (cxA an42 Try.prog 2) 1 x42_L1 (KS.fany (wW Try.prog [] 2 (wordsW w.args s1))) [(0,.ptr 0 0 0),(38,.list (w.args.map wrd)),(39,.int .i64 (w.args.length : Int)),(40,.int .i64 0)] (wk s1):=by
   intro s1 hs1 hL
   refine W_of fun Q hQ=>?_
   obtain ⟨R,hR⟩ : ∃ R,wordsW w.args s1 = R:=⟨_,rfl⟩
   rw [hR] at hQ
   have main : ∀ n i s2,i + n = w.args.length → s2.1 ≤ 200 → wordsW (w.args.drop i) s2 = R → Q [(0,.ptr 0 0 0),(38,.list (w.args.map wrd)),(39,.int .i64 (w.args.length : Int)),(40,.int .i64 (i : Int))] (wk s2):=by
    intro n
    induction n with
    | zero=>
     intro i s2 hi hs2 hR
     rw [List.drop_of_length_le (by omega),wordsW] at hR
     subst hR
     apply hQ
     clear hQ
     (refine Sg.h ?_;try repeat' ((with_reducible first|refine brA ?_|refine brE fun _=>?_|refine spl ⟨?_,?_⟩<;>intro _)<;>((try simp -implicitDefEqProofs(disch:=first|assumption|(try simp only[lens]);omega -splitDisjunctions)))))
    | succ n ihn=>
     intro i s2 hi hs2 hR
     have hil : i < w.args.length:=by omega
     have hc:=ih w.args[i] (List.getElem_mem hil) s2 hs2
     rw [List.drop_eq_getElem_cons hil,wordsW] at hR
     dsimp only at hR
     cases hw1 : wordW w.args[i] s2 with
     | error er=>
      obtain ⟨er,s3⟩:=er
      rw [hw1] at hc hR
      subst hR
      simp only [ToldW] at hc
      clear ihn
      apply hQ
      clear hQ
      (refine Sg.h ?_;try repeat' ((with_reducible first|refine brA ?_|refine brE fun _=>?_|refine spl ⟨?_,?_⟩<;>intro _)<;>((try simp -implicitDefEqProofs(disch:=first|assumption|(try simp only[lens]);omega -splitDisjunctions) [hil]))))
      refine cl_wkp (rest:=[_]) hc ?_
      (refine Sg.h ?_;try repeat' ((with_reducible first|refine brA ?_|refine brE fun _=>?_|refine spl ⟨?_,?_⟩<;>intro _)<;>((try simp -implicitDefEqProofs(disch:=first|assumption|(try simp only[lens]);omega -splitDisjunctions)))))
     | ok s3=>
      rw [hw1] at hc hR
      have ihn:=ihn (i + 1) s3 (by omega) (wordW_n _ _ _ hw1 hs2) hR
      simp only [ToldW] at hc
      apply hQ
      clear hQ
      (refine Sg.h ?_;try repeat' ((with_reducible first|refine brA ?_|refine brE fun _=>?_|refine spl ⟨?_,?_⟩<;>intro _)<;>((try simp -implicitDefEqProofs(disch:=first|assumption|(try simp only[lens]);omega -splitDisjunctions) [hil]))))
      refine cl_wk (rest:=[_]) hc ?_
      (refine Sg.h ?_;try repeat' ((with_reducible first|refine brA ?_|refine brE fun _=>?_|refine spl ⟨?_,?_⟩<;>intro _)<;>((try simp -implicitDefEqProofs(disch:=first|assumption|(try simp only[lens]);omega -splitDisjunctions)))))
      all_goals first|exact ihn|(refine at2 ihn ?_ ?_<;>simp;done)|(exfalso;first|omega|(simp_all;done)|(simp_all;omega))
   exact main _ 0 s1 (Nat.zero_add _) hs1 hR
  have hm:=fun h=>many_first s.1 ⟨#[102]⟩ w.nm w.args.length (s.1 + 1,s.2) h
  have hs1 : (s.1 + 1,s.2).1 ≤ 200:=by simp;omega
  generalize (s.1 + 1,s.2) = s1 at *
  cases hin : isNameB w.nm with
  | true=>
   rw [hin] at hn
   rw [if_pos rfl]
   by_cases hc : 0 < w.args.length
   ·rw [if_pos hc]
    have hc' : (0 : Int) < (w.args.length : Int):=by omega
    (refine Sg.h ?_;try repeat' ((with_reducible first|refine brA ?_|refine brE fun _=>?_|refine spl ⟨?_,?_⟩<;>intro _)<;>((try simp -implicitDefEqProofs(disch:=first|assumption|(try simp only[lens]);omega -splitDisjunctions)))))
    refine cl_wk (rest:=[_]) hnext ?_
    (refine Sg.h ?_;try repeat' ((first|(with_reducible first|refine brA ?_|refine brE fun _=>?_|refine spl ⟨?_,?_⟩<;>intro _)|refine clo hn ?_|refine clo hf9 ?_)<;>((try simp -implicitDefEqProofs(disch:=first|assumption|(try simp only[lens]);omega -splitDisjunctions) [hw,hc',pan_fst]))))
   ·rw [if_neg hc]
    have hc' : ¬ (0 : Int) < (w.args.length : Int):=by omega
    have key:=key s1 hs1
    (refine Sg.h ?_;try repeat' ((with_reducible first|refine brA ?_|refine brE fun _=>?_|refine spl ⟨?_,?_⟩<;>intro _)<;>((try simp -implicitDefEqProofs(disch:=first|assumption|(try simp only[lens]);omega -splitDisjunctions)))))
    refine cl_wk (rest:=[_]) hnext ?_
    (refine Sg.h ?_;try repeat' ((first|(with_reducible first|refine brA ?_|refine brE fun _=>?_|refine spl ⟨?_,?_⟩<;>intro _)|refine clo hn ?_)<;>((try simp -implicitDefEqProofs(disch:=first|assumption|(try simp only[lens]);omega -splitDisjunctions) [hw,hc']))))
    all_goals first|exact key (by omega)|(refine at2 key (by omega) ?_ ?_<;>simp;done)|(exfalso;first|omega|(simp_all;done)|(simp_all;omega))
  | false=>
   rw [hin] at hn
   rw [if_neg (by decide)]
   cases hbg : isBigB w.nm with
   | false=>
    rw [hbg] at hb
    rw [if_neg (by decide)]
    (refine Sg.h ?_;try repeat' ((with_reducible first|refine brA ?_|refine brE fun _=>?_|refine spl ⟨?_,?_⟩<;>intro _)<;>((try simp -implicitDefEqProofs(disch:=first|assumption|(try simp only[lens]);omega -splitDisjunctions)))))
    refine cl_wk (rest:=[_]) hnext ?_
    (refine Sg.h ?_;try repeat' ((first|(with_reducible first|refine brA ?_|refine brE fun _=>?_|refine spl ⟨?_,?_⟩<;>intro _)|refine clo hn ?_|refine clo hb ?_|refine clo hf8 ?_)<;>((try simp -implicitDefEqProofs(disch:=first|assumption|(try simp only[lens]);omega -splitDisjunctions) [hw,pan_fst]))))
   | true=>
    rw [hbg] at hb
    rw [if_pos rfl]
    have hsz : w.nm.size ≤ 8:=by
     unfold isBigB at hbg
     simp only [Bool.and_eq_true,decide_eq_true_eq] at hbg
     omega
    have hm:=hm (by rw [show (⟨#[102]⟩ : ByteArray).size = 1 from rfl];omega)
    cases hmw : manyW s.1 (⟨#[102]⟩ ++ w.nm) w.args.length s1 with
    | error er=>
     obtain ⟨er,s3⟩:=er
     rw [hmw] at hm
     simp only [ToldW] at hm
     (refine Sg.h ?_;try repeat' ((with_reducible first|refine brA ?_|refine brE fun _=>?_|refine spl ⟨?_,?_⟩<;>intro _)<;>((try simp -implicitDefEqProofs(disch:=first|assumption|(try simp only[lens]);omega -splitDisjunctions)))))
     refine cl_wk (rest:=[_]) hnext ?_
     (refine Sg.h ?_;try repeat' ((first|(with_reducible first|refine brA ?_|refine brE fun _=>?_|refine spl ⟨?_,?_⟩<;>intro _)|refine clo hn ?_|refine clo hb ?_)<;>((try simp -implicitDefEqProofs(disch:=first|assumption|(try simp only[lens]);omega -splitDisjunctions) [hw]))))
     refine cl_wkp (rest:=[_]) hm ?_
     (refine Sg.h ?_;try repeat' ((with_reducible first|refine brA ?_|refine brE fun _=>?_|refine spl ⟨?_,?_⟩<;>intro _)<;>((try simp -implicitDefEqProofs(disch:=first|assumption|(try simp only[lens]);omega -splitDisjunctions)))))
    | ok s3=>
     have hs3:=manyW_n hmw
     rw [hmw] at hm
     simp only [ToldW] at hm
     have key:=key s3 (by rw [hs3];exact hs1)
     (refine Sg.h ?_;try repeat' ((with_reducible first|refine brA ?_|refine brE fun _=>?_|refine spl ⟨?_,?_⟩<;>intro _)<;>((try simp -implicitDefEqProofs(disch:=first|assumption|(try simp only[lens]);omega -splitDisjunctions)))))
     refine cl_wk (rest:=[_]) hnext ?_
     (refine Sg.h ?_;try repeat' ((first|(with_reducible first|refine brA ?_|refine brE fun _=>?_|refine spl ⟨?_,?_⟩<;>intro _)|refine clo hn ?_|refine clo hb ?_)<;>((try simp -implicitDefEqProofs(disch:=first|assumption|(try simp only[lens]);omega -splitDisjunctions) [hw]))))
     refine cl_wk (rest:=[_]) hm ?_
     (refine Sg.h ?_;try repeat' ((with_reducible first|refine brA ?_|refine brE fun _=>?_|refine spl ⟨?_,?_⟩<;>intro _)<;>((try simp -implicitDefEqProofs(disch:=first|assumption|(try simp only[lens]);omega -splitDisjunctions) [hw]))))
     all_goals first|exact key (by omega)|(refine at2 key (by omega) ?_ ?_<;>simp;done)|(exfalso;first|omega|(simp_all;done)|(simp_all;omega))
end Go.Proofs.Ytbimioonhfhflaa
