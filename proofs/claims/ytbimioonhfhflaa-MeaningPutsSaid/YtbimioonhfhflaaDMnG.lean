import Derived.Test.YtbimioonhfhflaaDMnC
set_option linter.unusedVariables false
set_option linter.unusedSimpArgs false
set_option maxRecDepth 100000
set_option maxHeartbeats 4000000
namespace Go.Proofs.Ytbimioonhfhflaa
open Go Go.Pv
def funM (l : List Fn) : List (PV × PV):=l.map fun f=>(.str f.name,.agg (fnRow f))
def predM (l : List Pd) : List (PV × PV):=l.map fun f=>(.str f.name,.agg (pdRow f))
def funAt (x : ByteArray) (l : List Fn) : Option Fn:=l.find? fun f=>decide (x = f.name)
def predAt (x : ByteArray) (l : List Pd) : Option Pd:=l.find? fun f=>decide (x = f.name)
theorem find_funM (x : ByteArray) : ∀ (l : List Fn) (i : Nat),(funAt x l = none → findP (.str x) (funM l) i = some none) ∧ (∀ f,funAt x l = some f → ∃ j,findP (.str x) (funM l) i = some (some (i + j,.agg (fnRow f))) ∧ (funM l)[j]? = some (.str x,.agg (fnRow f)))
 | [],i=>⟨fun _=>rfl,fun f h=>by simp [funAt] at h⟩
 | g :: r,i=>by
  have ih:=find_funM x r (i + 1)
  by_cases h : x = g.name
  ·have e : funAt x (g :: r) = some g := by simp [funAt,h]
   rw [e]
   refine ⟨fun h=>(by cases h),fun f hf=>?_⟩
   have hf : g = f:=by simpa using hf
   subst hf
   exact ⟨0,by simp [funM,findP,keyEq,h],by simp [funM,h]⟩
  ·have e : funAt x (g :: r) = funAt x r := by simp [funAt,h]
   rw [e]
   refine ⟨fun hn=>?_,fun f hf=>?_⟩
   ·have := ih.1 hn
    simpa [funM,findP,keyEq,h] using this
   ·obtain ⟨j,h1,h2⟩ := ih.2 f hf
    refine ⟨j + 1,?_,by simpa [funM] using h2⟩
    rw [show i + (j + 1) = i + 1 + j by omega]
    simpa [funM,findP,keyEq,h] using h1
theorem find_predM (x : ByteArray) : ∀ (l : List Pd) (i : Nat),(predAt x l = none → findP (.str x) (predM l) i = some none) ∧ (∀ f,predAt x l = some f → ∃ j,findP (.str x) (predM l) i = some (some (i + j,.agg (pdRow f))) ∧ (predM l)[j]? = some (.str x,.agg (pdRow f)))
 | [],i=>⟨fun _=>rfl,fun f h=>by simp [predAt] at h⟩
 | g :: r,i=>by
  have ih:=find_predM x r (i + 1)
  by_cases h : x = g.name
  ·have e : predAt x (g :: r) = some g := by simp [predAt,h]
   rw [e]
   refine ⟨fun h=>(by cases h),fun f hf=>?_⟩
   have hf : g = f:=by simpa using hf
   subst hf
   exact ⟨0,by simp [predM,findP,keyEq,h],by simp [predM,h]⟩
  ·have e : predAt x (g :: r) = predAt x r := by simp [predAt,h]
   rw [e]
   refine ⟨fun hn=>?_,fun f hf=>?_⟩
   ·have := ih.1 hn
    simpa [predM,findP,keyEq,h] using this
   ·obtain ⟨j,h1,h2⟩ := ih.2 f hf
    refine ⟨j + 1,?_,by simpa [predM] using h2⟩
    rw [show i + (j + 1) = i + 1 + j by omega]
    simpa [predM,findP,keyEq,h] using h1
@[simp] theorem funM_snoc (l : List Fn) (f : Fn) : funM l ++ [(.str f.name,.agg (fnRow f))] = funM (l ++ [f]):=by simp [funM]
@[simp] theorem predM_snoc (l : List Pd) (f : Pd) : predM l ++ [(.str f.name,.agg (pdRow f))] = predM (l ++ [f]):=by simp [predM]
def worldOf (n : Int) (F : List Fn) (P : List Pd) : PV:=.iptr [.int .i64 n,.imap (funM F),.imap (predM P)]
@[simp] theorem deref_fn {s : Store} {n : Nat} {a : Fn} : deref s (n + 1) (.agg (fnRow a)) = .agg (fnRow a):=by simp
@[simp] theorem deref_pd {s : Store} {n : Nat} {a : Pd} : deref s (n + 1) (.agg (pdRow a)) = .agg (pdRow a):=by simp
@[simp] theorem derefs_funM {s : Store} {n : Nat} (l : List Fn) : (funM l).map (fun p=>(deref s (n + 1) p.1,deref s (n + 1) p.2)) = funM l:=by
 simp [funM]
@[simp] theorem funM_refs (l : List Fn) : ((funM l).flatMap fun p=>refsN 4 p.2) = []:=by
 induction l with
 | nil=>rfl
 | cons a r ih=>simp [funM]
@[simp] theorem funM_ren {ρ : List Nat} (l : List Fn) : (funM l).map (fun p=>(renN ρ 4 p.1,renN ρ 4 p.2)) = funM l:=by simp [funM]
@[simp] theorem derefs_predM {s : Store} {n : Nat} (l : List Pd) : (predM l).map (fun p=>(deref s (n + 1) p.1,deref s (n + 1) p.2)) = predM l:=by
 simp [predM]
@[simp] theorem predM_refs (l : List Pd) : ((predM l).flatMap fun p=>refsN 4 p.2) = []:=by
 induction l with
 | nil=>rfl
 | cons a r ih=>simp [predM]
@[simp] theorem predM_ren {ρ : List Nat} (l : List Pd) : (predM l).map (fun p=>(renN ρ 4 p.1,renN ρ 4 p.2)) = predM l:=by simp [predM]
def x31_T3 : XC:=.seq (.reg [⟨some 44,.move (.tmp 3),none⟩,⟨some 2,.assign (.tmp 44),none⟩]) .ret
def x31_L2 : XC:=.seq (.reg [⟨some 33,.binOp .lss 3 (.tmp 32) (.tmp 31) 3,none⟩]) (.seq (.cond (.tmp 33) .skip (.exit 2)) (.seq (.block 3 (.seq (.reg [⟨some 34,.indexAddr 23 (.tmp 30) (.tmp 32),none⟩,⟨some 35,.load 61 (.tmp 34),none⟩,⟨some 7,.alloc 61,none⟩,⟨none,.store 61 (.tmp 7) (.tmp 35),none⟩]) (.drawn 10 [⟨some 36,.move (.tmp 3),none⟩,⟨some 37,.nilCheck (.tmp 36),none⟩,⟨some 38,.fieldAddr 95 (.tmp 37) 2,none⟩,⟨some 39,.load 93 (.tmp 38),none⟩,⟨some 40,.fieldAddr 61 (.tmp 7) 0,none⟩,⟨some 41,.load 9 (.tmp 40),none⟩,⟨some 42,.load 61 (.tmp 7),none⟩,⟨none,.mapUpdate 93 (.tmp 39) (.tmp 41) (.tmp 42),none⟩]))) (.reg [⟨some 43,.binOp .add 3 (.tmp 32) (.const (.int .i64 1)) 3,none⟩,⟨some 32,.move (.tmp 43),none⟩])))
def x31_T1 : XC:=.seq (.seq (.reg [⟨some 29,.fieldAddr 25 (.tmp 1) 2,none⟩,⟨some 30,.load 23 (.tmp 29),none⟩,⟨some 31,.call ⟨.builtin .len,#[.tmp 30],#[23]⟩,none⟩,⟨some 32,.move (.const (.int .i64 0)),none⟩]) (.bloop 2 x31_L2)) (x31_T3)
def x31_L0 : XC:=.seq (.reg [⟨some 18,.binOp .lss 3 (.tmp 17) (.tmp 16) 3,none⟩]) (.seq (.cond (.tmp 18) .skip (.exit 0)) (.seq (.block 1 (.seq (.reg [⟨some 19,.indexAddr 22 (.tmp 15) (.tmp 17),none⟩,⟨some 20,.load 57 (.tmp 19),none⟩,⟨some 5,.alloc 57,none⟩,⟨none,.store 57 (.tmp 5) (.tmp 20),none⟩]) (.drawn 5 [⟨some 21,.move (.tmp 3),none⟩,⟨some 22,.nilCheck (.tmp 21),none⟩,⟨some 23,.fieldAddr 95 (.tmp 22) 1,none⟩,⟨some 24,.load 92 (.tmp 23),none⟩,⟨some 25,.fieldAddr 57 (.tmp 5) 0,none⟩,⟨some 26,.load 9 (.tmp 25),none⟩,⟨some 27,.load 57 (.tmp 5),none⟩,⟨none,.mapUpdate 92 (.tmp 24) (.tmp 26) (.tmp 27),none⟩]))) (.reg [⟨some 28,.binOp .add 3 (.tmp 17) (.const (.int .i64 1)) 3,none⟩,⟨some 17,.move (.tmp 28),none⟩])))
def x31 : XC:=.seq (.reg [⟨some 1,.box 25 (.tmp 0),none⟩,⟨some 2,.assign (.const (.pointer none)),none⟩]) (.seq (.reg [⟨some 8,.fieldAddr 25 (.tmp 1) 0,none⟩,⟨some 9,.load 3 (.tmp 8),none⟩,⟨some 10,.makeMap 92 none,none⟩,⟨some 11,.makeMap 93 none,none⟩,⟨some 12,.build 95 #[(0,.tmp 9),(1,.tmp 10),(2,.tmp 11)],none⟩,⟨some 13,.box 95 (.tmp 12),none⟩,⟨some 3,.assign (.tmp 13),none⟩]) (.seq (.seq (.reg [⟨some 14,.fieldAddr 25 (.tmp 1) 1,none⟩,⟨some 15,.load 22 (.tmp 14),none⟩,⟨some 16,.call ⟨.builtin .len,#[.tmp 15],#[22]⟩,none⟩,⟨some 17,.move (.const (.int .i64 0)),none⟩]) (.bloop 0 x31_L0)) (x31_T1)))
@[simp] theorem x31_s {C e s K} : type_of% (@X_at C e s K _ _ x31_T3.eq_1) ∧ type_of% (@X_at C e s K _ _ x31_L2.eq_1) ∧ type_of% (@X_at C e s K _ _ x31_T1.eq_1) ∧ type_of% (@X_at C e s K _ _ x31_L0.eq_1) ∧ type_of% (@X_at C e s K _ _ x31.eq_1):=⟨X_at x31_T3.eq_1,X_at x31_L2.eq_1,X_at x31_T1.eq_1,X_at x31_L0.eq_1,X_at x31.eq_1⟩
def an31 : Ann:=⟨[],[(2,[],[3,30,31,32],[3]),(0,[],[1,3,15,16,17],[1,3])],[]⟩
@[simp] theorem an31_a : an31.clsOf 5 = .draw ∧ an31.clsOf 10 = .draw ∧ an31.frzOf 5 = [] ∧ an31.frzOf 10 = [] ∧ an31.loopOf 2 = ([],[3,30,31,32],[3]) ∧ an31.loopOf 0 = ([],[1,3,15,16,17],[1,3]):=⟨rfl,rfl,rfl,rfl,rfl,rfl⟩
theorem fi31 : FI Try.prog 31 (cxA an31) x31 [.tmp 2] Try.f31:=fiA Try.func31 mixed
theorem newWorld_meaning (n : Int) (F : List Fn) (P : List Pd) (hF : F.length ≤ 10) (hP : P.length ≤ 10) (hnF : (F.map Fn.name).Nodup) (hnP : (P.map Pd.name).Nodup) : CallOK Try.prog 31 [.agg (stc ⟨n,F,P⟩)] [] (worldOf n F P) []:=by
 unfold stc worldOf
 dsimp only
 refine fi31.op ?_
 (refine Sg.h ?_;try repeat' ((with_reducible first|refine brA ?_|refine brE fun _=>?_|refine spl ⟨?_,?_⟩<;>intro _)<;>((try simp -implicitDefEqProofs(disch:=first|assumption|(try simp only[lens]);omega -splitDisjunctions)))))
 refine W_of fun Q hQ=>?_
 have main : ∀ k i,i + k = F.length → Q [(1,.ptr 0 0 0),(3,.ptr 1 0 0),(15,.list (F.map fnRow)),(16,.int .i64 (F.length : Int)),(17,.int .i64 (i : Int))] [.rows 3 [[.int .i64 n,.list (F.map fnRow),.list (P.map pdRow)]],.rows 3 [[.int .i64 n,.mapv 2,.mapv 3]],.map (funM (F.take i)),.map []]:=by
  intro k
  induction k with
  | zero=>
   intro i hi
   obtain rfl : i = F.length:=by omega
   rw [List.take_length]
   apply hQ
   clear hQ
   (refine Sg.h ?_;try repeat' ((with_reducible first|refine brA ?_|refine brE fun _=>?_|refine spl ⟨?_,?_⟩<;>intro _)<;>((try simp -implicitDefEqProofs(disch:=first|assumption|(try simp only[lens]);omega -splitDisjunctions)))))
   refine W_of fun Q hQ=>?_
   have main : ∀ k i,i + k = P.length → Q [(3,.ptr 0 0 0),(30,.list (P.map pdRow)),(31,.int .i64 (P.length : Int)),(32,.int .i64 (i : Int))] [.rows 3 [[.int .i64 n,.mapv 1,.mapv 2]],.map (funM F),.map (predM (P.take i))]:=by
    intro k
    induction k with
    | zero=>
     intro i hi
     obtain rfl : i = P.length:=by omega
     rw [List.take_length]
     apply hQ
     clear hQ
     (refine Sg.h ?_;try repeat' ((with_reducible first|refine brA ?_|refine brE fun _=>?_|refine spl ⟨?_,?_⟩<;>intro _)<;>((try simp -implicitDefEqProofs(disch:=first|assumption|(try simp only[lens]);omega -splitDisjunctions)))))
    | succ k ih=>
     intro i hi
     have hil : i < P.length:=by omega
     have ih:=ih (i + 1) (by omega)
     rw [take_snocM hil] at ih
     have hno : predAt P[i].name (P.take i) = none:=by
      rw [predAt,List.find?_eq_none]
      intro g hg
      obtain ⟨j,hj,rfl⟩:=List.mem_iff_getElem.1 hg
      rw [List.length_take] at hj
      rw [List.getElem_take]
      intro h
      have h:=of_decide_eq_true h
      have:=(List.getElem_inj (xs:=P.map Pd.name) (i:=i) (j:=j) (h₀:=by rw [List.length_map];omega) (h₁:=by rw [List.length_map];omega) hnP).1 (by rw [List.getElem_map,List.getElem_map];exact h)
      omega
     have hfi:=(find_predM P[i].name (P.take i) 0).1 hno
     have hi' : (i : Int) < (P.length : Int):=by omega
     generalize hx : P[i] = f at *
     apply hQ
     clear hQ
     (refine Sg.h ?_;try repeat' ((with_reducible first|refine brA ?_|refine brE fun _=>?_|refine spl ⟨?_,?_⟩<;>intro _)<;>((try simp -implicitDefEqProofs(disch:=first|assumption|(try simp only[lens]);omega -splitDisjunctions) [hi',hil,hx,hfi]))))
     all_goals first|exact ih|(refine at2 ih ?_ ?_<;>simp;done)|(exfalso;first|omega|(simp_all;done)|(simp_all;omega))
   all_goals first|exact main P.length 0 (Nat.zero_add _)|(refine at2 main P.length 0 (Nat.zero_add _) ?_ ?_<;>simp;done)|(exfalso;first|omega|(simp_all;done)|(simp_all;omega))
  | succ k ih=>
   intro i hi
   have hil : i < F.length:=by omega
   have ih:=ih (i + 1) (by omega)
   rw [take_snocM hil] at ih
   have hno : funAt F[i].name (F.take i) = none:=by
    rw [funAt,List.find?_eq_none]
    intro g hg
    obtain ⟨j,hj,rfl⟩:=List.mem_iff_getElem.1 hg
    rw [List.length_take] at hj
    rw [List.getElem_take]
    intro h
    have h:=of_decide_eq_true h
    have:=(List.getElem_inj (xs:=F.map Fn.name) (i:=i) (j:=j) (h₀:=by rw [List.length_map];omega) (h₁:=by rw [List.length_map];omega) hnF).1 (by rw [List.getElem_map,List.getElem_map];exact h)
    omega
   have hfi:=(find_funM F[i].name (F.take i) 0).1 hno
   have hi' : (i : Int) < (F.length : Int):=by omega
   generalize hx : F[i] = f at *
   apply hQ
   clear hQ
   (refine Sg.h ?_;try repeat' ((with_reducible first|refine brA ?_|refine brE fun _=>?_|refine spl ⟨?_,?_⟩<;>intro _)<;>((try simp -implicitDefEqProofs(disch:=first|assumption|(try simp only[lens]);omega -splitDisjunctions) [hi',hil,hx,hfi]))))
   all_goals first|exact ih|(refine at2 ih ?_ ?_<;>simp;done)|(exfalso;first|omega|(simp_all;done)|(simp_all;omega))
 all_goals first|exact main F.length 0 (Nat.zero_add _)|(refine at2 main F.length 0 (Nat.zero_add _) ?_ ?_<;>simp;done)|(exfalso;first|omega|(simp_all;done)|(simp_all;omega))
end Go.Proofs.Ytbimioonhfhflaa
namespace Go.Proofs.Ytbimioonhfhflaa
open Go Go.Pv
def envI (L : List (ByteArray × Int)) (x : ByteArray) : Int:=(lookI x L).getD 0
mutual
def wordV (N : Int) (F : List Fn) (E : ByteArray → Int) : Wd → Int
 | .mk nm l=>if isNameB nm = true then E nm else ((funAt nm F).getD default).tab.getD (placeV N F E l).toNat 0
def placeV (N : Int) (F : List Fn) (E : ByteArray → Int) : List Wd → Int
 | []=>0
 | w :: r=>placeV N F E r * N + wordV N F E w
end
theorem wordV_eq {N : Int} {F : List Fn} {E : ByteArray → Int} (w : Wd) : wordV N F E w = if isNameB w.nm = true then E w.nm else ((funAt w.nm F).getD default).tab.getD (placeV N F E w.args).toNat 0:=by
 cases w with | mk a l=>rw [wordV];rfl
mutual
def wordOkF (F : List Fn) : Wd → Bool
 | .mk nm l=>isNameB nm || ((funAt nm F).any (fun f=>decide (f.ar = (l.length : Int))) && wordsOkF F l)
def wordsOkF (F : List Fn) : List Wd → Bool
 | []=>true
 | w :: r=>wordOkF F w && wordsOkF F r
end
theorem wordOkF_eq {F : List Fn} (w : Wd) : wordOkF F w = (isNameB w.nm || ((funAt w.nm F).any (fun f=>decide (f.ar = (w.args.length : Int))) && wordsOkF F w.args)):=by
 cases w with | mk a l=>rw [wordOkF];rfl
theorem wordsOkF_mem {F : List Fn} : ∀ {l : List Wd},wordsOkF F l = true → ∀ w ∈ l,wordOkF F w = true
 | [],_,w,h=>by cases h
 | a :: r,h,w,hw=>by
  rw [wordsOkF,Bool.and_eq_true] at h
  cases hw with
  | head=>exact h.1
  | tail _ hw=>exact wordsOkF_mem h.2 w hw
def FunsOk (N : Int) (F : List Fn) : Prop:=∀ f ∈ F,tabF N f = 0
theorem tabF_zero {N : Int} {f : Fn} (h : tabF N f = 0) : 0 ≤ f.ar ∧ f.ar ≤ 3 ∧ (f.tab.length : Int) = N ^ f.ar.toNat ∧ ∀ x ∈ f.tab,0 ≤ x ∧ x < N:=by
 unfold tabF at h
 split at h
 ·cases h
 rename_i h1
 split at h
 ·cases h
 rename_i h2
 split at h
 ·cases h
 rename_i h3
 refine ⟨by omega,by omega,Decidable.not_not.1 h2,fun x hx=>?_⟩
 have:=List.any_eq_false.1 (Bool.eq_false_iff.2 h3) x hx
 have : ¬ (x < 0 ∨ N ≤ x):=fun g=>this (decide_eq_true g)
 omega
theorem funAt_mem {x : ByteArray} {F : List Fn} {f : Fn} (h : funAt x F = some f) : f ∈ F:=List.mem_of_find?_eq_some h
theorem place_range {N : Int} {F : List Fn} {E : ByteArray → Int} (hN : 0 < N) : ∀ {l : List Wd},(∀ w ∈ l,0 ≤ wordV N F E w ∧ wordV N F E w < N) → 0 ≤ placeV N F E l ∧ placeV N F E l < N ^ l.length
 | [],_=>by rw [placeV];simp
 | a :: r,h=>by
  have ih:=place_range hN (l:=r) fun w hw=>h w (by simp [hw])
  have h0:=h a (by simp)
  rw [placeV,List.length_cons,Int.pow_succ]
  have h1 : 0 ≤ placeV N F E r * N:=Int.mul_nonneg ih.1 (by omega)
  have h2 : (placeV N F E r + 1) * N ≤ N ^ r.length * N:=Int.mul_le_mul_of_nonneg_right (by omega) (by omega)
  rw [Int.add_mul,Int.one_mul] at h2
  omega
theorem word_range {N : Int} {F : List Fn} {E : ByteArray → Int} (hN : 0 < N) (hF : FunsOk N F) (hE : ∀ x,0 ≤ E x ∧ E x < N) (w : Wd) (hw : wordOkF F w = true) : 0 ≤ wordV N F E w ∧ wordV N F E w < N:=by
 induction w using Wd.ind with
 | h w ih=>
  rw [wordV_eq]
  rw [wordOkF_eq] at hw
  split
  ·exact hE _
  ·rename_i hn
   rw [Bool.eq_false_iff.2 hn,Bool.false_or,Bool.and_eq_true] at hw
   cases hf : funAt w.nm F with
   | none=>rw [hf] at hw;exact absurd hw.1 (by simp)
   | some f=>
    rw [hf] at hw
    have har : f.ar = (w.args.length : Int):=by simpa using hw.1
    obtain ⟨h1,h2,h3,h4⟩:=tabF_zero (hF f (funAt_mem hf))
    have hp:=place_range (E:=E) hN (l:=w.args) fun a ha=>ih a ha (wordsOkF_mem hw.2 a ha)
    rw [har,Int.toNat_natCast] at h3
    rw [Option.getD_some]
    have hl : (placeV N F E w.args).toNat < f.tab.length:=by omega
    rw [List.getD_eq_getElem?_getD,List.getElem?_eq_getElem hl]
    exact h4 _ (List.getElem_mem hl)
def x56_T1 : XC:=.seq (.reg [⟨some 30,.move (.tmp 7),none⟩,⟨some 6,.assign (.tmp 30),none⟩]) .ret
def x56_L0 : XC:=.seq (.seq (.reg [⟨some 12,.move (.tmp 8),none⟩,⟨some 13,.binOp .geq 3 (.tmp 12) (.const (.int .i64 0)) 3,none⟩]) (.cond (.tmp 13) .skip (.exit 0))) (.seq (.block 1 (.drawn 5 [⟨some 16,.move (.tmp 7),none⟩,⟨some 17,.move (.tmp 0),none⟩,⟨some 18,.nilCheck (.tmp 17),none⟩,⟨some 19,.fieldAddr 95 (.tmp 18) 0,none⟩,⟨some 20,.load 3 (.tmp 19),none⟩,⟨some 21,.binOp .mul 3 (.tmp 16) (.tmp 20) 3,none⟩,⟨some 22,.move (.tmp 0),none⟩,⟨some 23,.move (.tmp 1),none⟩,⟨some 24,.move (.tmp 8),none⟩,⟨some 25,.indexAddr 26 (.tmp 23) (.tmp 24),none⟩,⟨some 26,.load 31 (.tmp 25),none⟩,⟨some 27,.move (.tmp 2),none⟩,⟨some 28,.call ⟨.value (.func 57),#[.tmp 22,.tmp 26,.tmp 27],#[68,31,67]⟩,none⟩,⟨some 29,.binOp .add 3 (.tmp 21) (.tmp 28) 3,none⟩,⟨some 7,.assign (.tmp 29),none⟩])) (.reg [⟨some 14,.move (.tmp 8),none⟩,⟨some 15,.binOp .sub 3 (.tmp 14) (.const (.int .i64 1)) 3,none⟩,⟨some 8,.assign (.tmp 15),none⟩]))
def x56 : XC:=.seq (.reg [⟨some 6,.assign (.const (.int .i64 0)),none⟩]) (.seq (.reg [⟨some 7,.assign (.const (.int .i64 0)),none⟩]) (.seq (.seq (.reg [⟨some 9,.move (.tmp 1),none⟩,⟨some 10,.call ⟨.builtin .len,#[.tmp 9],#[26]⟩,none⟩,⟨some 11,.binOp .sub 3 (.tmp 10) (.const (.int .i64 1)) 3,none⟩,⟨some 8,.assign (.tmp 11),none⟩]) (.bloop 0 x56_L0)) (x56_T1)))
@[simp] theorem x56_s {C e s K} : type_of% (@X_at C e s K _ _ x56_T1.eq_1) ∧ type_of% (@X_at C e s K _ _ x56_L0.eq_1) ∧ type_of% (@X_at C e s K _ _ x56.eq_1):=⟨X_at x56_T1.eq_1,X_at x56_L0.eq_1,X_at x56.eq_1⟩
def an56 : Ann:=⟨[(5,.mix 13)],[(0,[],[0,1,2,7,8],[7])],[]⟩
@[simp] theorem an56_a : an56.clsOf 5 = .mix 13 ∧ an56.frzOf 5 = [] ∧ an56.loopOf 0 = ([],[0,1,2,7,8],[7]):=⟨rfl,rfl,rfl⟩
theorem fi56 : FI Try.prog 56 (cxA an56) x56 [.tmp 6] Try.f56:=fiA Try.func56 mixed
theorem place_world (N : Int) (h0 : 0 < N) (h8 : N ≤ 8) (F : List Fn) (P : List Pd) (L : List (ByteArray × Int)) (l : List Wd) (hl : l.length ≤ 3) (hr : ∀ w ∈ l,0 ≤ wordV N F (envI L) w ∧ wordV N F (envI L) w < N) (h : ∀ w ∈ l,CallOK Try.prog 57 [worldOf N F P,.agg (wrd w),.imap (mapI L)] [] (.int .i64 (wordV N F (envI L) w)) []) :
  CallOK Try.prog 56 [worldOf N F P,.list (l.map wrd),.imap (mapI L)] [] (.int .i64 (placeV N F (envI L) l)) []:=by
 unfold worldOf at h ⊢
 refine fi56.op ?_
 (refine Sg.h ?_;try repeat' ((with_reducible first|refine brA ?_|refine brE fun _=>?_|refine spl ⟨?_,?_⟩<;>intro _)<;>((try simp -implicitDefEqProofs(disch:=first|assumption|(try simp only[lens]);omega -splitDisjunctions)))))
 refine W_of fun Q hQ=>?_
 have main : ∀ i,i ≤ l.length → Q [(0,.iptr [.int .i64 N,.imap (funM F),.imap (predM P)]),(1,.list (l.map wrd)),(2,.imap (mapI L)),(7,.int .i64 (placeV N F (envI L) (l.drop i))),(8,.int .i64 ((i : Int) - 1))] []:=by
  intro i
  induction i with
  | zero=>
   intro _
   rw [List.drop_zero]
   apply hQ
   clear hQ
   (refine Sg.h ?_;try repeat' ((with_reducible first|refine brA ?_|refine brE fun _=>?_|refine spl ⟨?_,?_⟩<;>intro _)<;>((try simp -implicitDefEqProofs(disch:=first|assumption|(try simp only[lens]);omega -splitDisjunctions)))))
  | succ i ih=>
   intro hi
   have hil : i < l.length:=by omega
   have ih:=ih (by omega)
   have hc:=h _ (List.getElem_mem hil)
   have hrw:=hr _ (List.getElem_mem hil)
   have hpr:=place_range (E:=envI L) h0 (l:=l.drop (i + 1)) fun w hw=>hr w (List.mem_of_mem_drop hw)
   have hpw:=pow_le8 (n:=N) (by omega) h8 (l.drop (i + 1)).length (by rw [List.length_drop];omega)
   have hpw2:=pow_le8 (n:=N) (by omega) h8 (l.drop (i + 1)).length (by rw [List.length_drop];omega)
   rw [List.drop_eq_getElem_cons hil,placeV] at ih
   generalize placeV N F (envI L) (l.drop (i + 1)) = p at *
   generalize N ^ (l.drop (i + 1)).length = q at *
   have hm : 0 ≤ p * N:=Int.mul_nonneg hpr.1 (by omega)
   have hm2 : p * N ≤ 262144 * 8:=Int.mul_le_mul (by omega) h8 (by omega) (by omega)
   obtain ⟨m,hme⟩ : ∃ m,p * N = m:=⟨_,rfl⟩
   rw [hme] at ih hm hm2
   generalize wordV N F (envI L) l[i] = v at *
   generalize hx : l[i] = w at *
   have e1 : ((i + 1 : Nat) : Int) - 1 = (i : Int):=by omega
   rw [e1]
   have h0i : (0 : Int) ≤ (i : Int):=by omega
   apply hQ
   clear hQ
   (refine Sg.h ?_;try repeat' ((first|(with_reducible first|refine brA ?_|refine brE fun _=>?_|refine spl ⟨?_,?_⟩<;>intro _)|refine clo hc ?_)<;>((try simp -implicitDefEqProofs(disch:=first|assumption|(try simp only[lens]);omega -splitDisjunctions) [hil,hx,h0i,hme]))))
   all_goals first|exact ih|(refine at2 ih ?_ ?_<;>simp;done)|(exfalso;first|omega|(simp_all;done)|(simp_all;omega))
 refine at2 (main l.length (Nat.le_refl _)) ?_ ?_
 ·rw [List.drop_length,placeV]
 ·rfl
def x57 : XC:=.seq (.reg [⟨some 4,.box 31 (.tmp 1),none⟩,⟨some 6,.assign (.const (.int .i64 0)),none⟩]) (.seq (.seq (.reg [⟨some 7,.fieldAddr 31 (.tmp 4) 0,none⟩,⟨some 8,.load 9 (.tmp 7),none⟩,⟨some 9,.call ⟨.value (.func 24),#[.tmp 8],#[9]⟩,none⟩]) (.cond (.tmp 9) (.seq (.reg [⟨some 10,.move (.tmp 2),none⟩,⟨some 11,.fieldAddr 31 (.tmp 4) 0,none⟩,⟨some 12,.load 9 (.tmp 11),none⟩,⟨some 13,.lookup 67 (.tmp 10) (.tmp 12) false,none⟩,⟨some 6,.assign (.tmp 13),none⟩]) .ret) .skip)) (.seq (.drawn 3 [⟨some 14,.move (.tmp 0),none⟩,⟨some 15,.nilCheck (.tmp 14),none⟩,⟨some 16,.fieldAddr 95 (.tmp 15) 1,none⟩,⟨some 17,.load 92 (.tmp 16),none⟩,⟨some 18,.fieldAddr 31 (.tmp 4) 0,none⟩,⟨some 19,.load 9 (.tmp 18),none⟩,⟨some 20,.lookup 92 (.tmp 17) (.tmp 19) false,none⟩,⟨some 21,.field 57 (.tmp 20) 2,none⟩,⟨some 22,.move (.tmp 0),none⟩,⟨some 23,.fieldAddr 31 (.tmp 4) 1,none⟩,⟨some 24,.load 26 (.tmp 23),none⟩,⟨some 25,.move (.tmp 2),none⟩,⟨some 26,.call ⟨.value (.func 56),#[.tmp 22,.tmp 24,.tmp 25],#[68,26,67]⟩,none⟩,⟨some 27,.indexAddr 33 (.tmp 21) (.tmp 26),none⟩,⟨some 28,.load 3 (.tmp 27),none⟩,⟨some 6,.assign (.tmp 28),none⟩]) .ret))
@[simp] theorem x57_s {C e s K} : type_of% (@X_at C e s K _ _ x57.eq_1):=X_at x57.eq_1
def an57 : Ann:=⟨[(3,.mix 13)],[],[]⟩
@[simp] theorem an57_a : an57.clsOf 3 = .mix 13 ∧ an57.frzOf 3 = []:=⟨rfl,rfl⟩
theorem fi57 : FI Try.prog 57 (cxA an57) x57 [.tmp 6] Try.f57:=fiA Try.func57 mixed
theorem word_world (N : Int) (h0 : 0 < N) (h8 : N ≤ 8) (F : List Fn) (hF : FunsOk N F) (P : List Pd) (L : List (ByteArray × Int)) (hE : ∀ x,0 ≤ envI L x ∧ envI L x < N) (w : Wd) (hw : wordOkF F w = true) : CallOK Try.prog 57 [worldOf N F P,.agg (wrd w),.imap (mapI L)] [] (.int .i64 (wordV N F (envI L) w)) []:=by
 induction w using Wd.ind with
 | h w ih=>
  have hnm:=isName_formula w.nm []
  rw [wordOkF_eq] at hw
  rw [wordV_eq]
  cases hn : isNameB w.nm with
  | true=>
   rw [hn] at hnm
   rw [if_pos rfl]
   unfold worldOf
   refine fi57.op ?_
   obtain ⟨f1,f2⟩:=findP_int w.nm L 0
   unfold envI
   cases hl : lookI w.nm L with
   | none=>
    have f1:=f1 hl
    (refine Sg.h ?_;try repeat' ((first|(with_reducible first|refine brA ?_|refine brE fun _=>?_|refine spl ⟨?_,?_⟩<;>intro _)|refine clo hnm ?_)<;>((try simp -implicitDefEqProofs(disch:=first|assumption|(try simp only[lens]);omega -splitDisjunctions) [f1]))))
   | some m=>
    obtain ⟨j,f3,f4⟩:=f2 m hl
    (refine Sg.h ?_;try repeat' ((first|(with_reducible first|refine brA ?_|refine brE fun _=>?_|refine spl ⟨?_,?_⟩<;>intro _)|refine clo hnm ?_)<;>((try simp -implicitDefEqProofs(disch:=first|assumption|(try simp only[lens]);omega -splitDisjunctions) [f3]))))
  | false=>
   rw [hn,Bool.false_or,Bool.and_eq_true] at hw
   rw [hn] at hnm
   rw [if_neg (by simp)]
   cases hf : funAt w.nm F with
   | none=>rw [hf] at hw;exact absurd hw.1 (by simp)
   | some f=>
    rw [hf] at hw
    have har : f.ar = (w.args.length : Int):=by simpa using hw.1
    obtain ⟨h1,h2,h3,h4⟩:=tabF_zero (hF f (funAt_mem hf))
    have hra : ∀ a ∈ w.args,0 ≤ wordV N F (envI L) a ∧ wordV N F (envI L) a < N:=fun a ha=>word_range h0 hF hE a (wordsOkF_mem hw.2 a ha)
    have hp:=place_range (E:=envI L) h0 hra
    have hpl:=place_world N h0 h8 F P L w.args (by omega) hra fun a ha=>ih a ha (wordsOkF_mem hw.2 a ha)
    rw [har,Int.toNat_natCast] at h3
    rw [Option.getD_some]
    obtain ⟨p,hpe⟩ : ∃ p : Nat,placeV N F (envI L) w.args = (p : Int):=⟨(placeV N F (envI L) w.args).toNat,by omega⟩
    rw [hpe] at hpl hp ⊢
    have hl : p < f.tab.length:=by omega
    rw [Int.toNat_natCast,List.getD_eq_getElem?_getD,List.getElem?_eq_getElem hl,Option.getD_some]
    obtain ⟨j,f3,f4⟩:=(find_funM w.nm F 0).2 f hf
    generalize hy : f.tab[p] = y
    unfold worldOf at hpl ⊢
    refine fi57.op ?_
    (refine Sg.h ?_;try repeat' ((first|(with_reducible first|refine brA ?_|refine brE fun _=>?_|refine spl ⟨?_,?_⟩<;>intro _)|refine clo hnm ?_|refine clo hpl ?_)<;>((try simp -implicitDefEqProofs(disch:=first|assumption|(try simp only[lens]);omega -splitDisjunctions) [f3,hl,hy]))))
end Go.Proofs.Ytbimioonhfhflaa
namespace Go.Proofs.Ytbimioonhfhflaa
open Go Go.Pv
mutual
def deepF : Ex → Nat
 | .mk k _ _ l=>deepsF l + if k = 9 ∨ k = 10 then 1 else 0
def deepsF : List Ex → Nat
 | []=>0
 | e :: r=>max (deepF e) (deepsF r)
end
theorem deepF_eq (e : Ex) : deepF e = deepsF e.kids + if e.k = 9 ∨ e.k = 10 then 1 else 0:=by
 cases e with | mk k a w l=>rw [deepF];rfl
theorem deeps_mem : ∀ {l : List Ex},∀ q ∈ l,deepF q ≤ deepsF l
 | [],q,h=>by cases h
 | a :: r,q,h=>by
  rw [deepsF]
  cases h with
  | head=>omega
  | tail _ h=>have:=deeps_mem q h;omega
def x34_T1 : XC:=.seq (.seq (.reg [⟨some 18,.fieldAddr 29 (.tmp 1) 0,none⟩,⟨some 19,.load 3 (.tmp 18),none⟩,⟨some 20,.binOp .eql 3 (.tmp 19) (.const (.int .i64 9)) 3,none⟩,⟨some 21,.move (.tmp 20),none⟩,⟨some 22,.fieldAddr 29 (.tmp 1) 0,some (some 21,false)⟩,⟨some 23,.load 3 (.tmp 22),some (some 21,false)⟩,⟨some 24,.binOp .eql 3 (.tmp 23) (.const (.int .i64 10)) 3,some (some 21,false)⟩,⟨some 25,.pick (.tmp 21) (.const (.bool true)) (.tmp 24),none⟩]) (.cond (.tmp 25) (.reg [⟨some 26,.move (.tmp 3),none⟩,⟨some 27,.binOp .add 3 (.tmp 26) (.const (.int .i64 1)) 3,none⟩,⟨some 3,.assign (.tmp 27),none⟩]) .skip)) (.seq (.reg [⟨some 28,.move (.tmp 3),none⟩,⟨some 2,.assign (.tmp 28),none⟩]) .ret)
def x34_L0 : XC:=.seq (.reg [⟨some 10,.binOp .lss 3 (.tmp 9) (.tmp 8) 3,none⟩]) (.seq (.cond (.tmp 10) .skip (.exit 0)) (.seq (.block 1 (.seq (.reg [⟨some 11,.indexAddr 27 (.tmp 7) (.tmp 9),none⟩,⟨some 12,.load 29 (.tmp 11),none⟩,⟨some 5,.alloc 29,none⟩,⟨none,.store 29 (.tmp 5) (.tmp 12),none⟩]) (.reg [⟨some 13,.move (.tmp 3),none⟩,⟨some 14,.load 29 (.tmp 5),none⟩,⟨some 15,.call ⟨.value (.func 34),#[.tmp 14],#[29]⟩,none⟩,⟨some 16,.call ⟨.builtin .max,#[.tmp 13,.tmp 15],#[3,3]⟩,none⟩,⟨some 3,.assign (.tmp 16),none⟩]))) (.reg [⟨some 17,.binOp .add 3 (.tmp 9) (.const (.int .i64 1)) 3,none⟩,⟨some 9,.move (.tmp 17),none⟩])))
def x34 : XC:=.seq (.reg [⟨some 1,.box 29 (.tmp 0),none⟩,⟨some 2,.assign (.const (.int .i64 0)),none⟩]) (.seq (.reg [⟨some 3,.assign (.const (.int .i64 0)),none⟩]) (.seq (.seq (.reg [⟨some 6,.fieldAddr 29 (.tmp 1) 3,none⟩,⟨some 7,.load 27 (.tmp 6),none⟩,⟨some 8,.call ⟨.builtin .len,#[.tmp 7],#[27]⟩,none⟩,⟨some 9,.move (.const (.int .i64 0)),none⟩]) (.bloop 0 x34_L0)) (x34_T1)))
@[simp] theorem x34_s {C e s K} : type_of% (@X_at C e s K _ _ x34_T1.eq_1) ∧ type_of% (@X_at C e s K _ _ x34_L0.eq_1) ∧ type_of% (@X_at C e s K _ _ x34.eq_1):=⟨X_at x34_T1.eq_1,X_at x34_L0.eq_1,X_at x34.eq_1⟩
def an34 : Ann:=⟨[],[(0,[],[1,3,7,8,9],[1,3])],[]⟩
@[simp] theorem an34_a : an34.loopOf 0 = ([],[1,3,7,8,9],[1,3]):=rfl
theorem fi34 : FI Try.prog 34 (cxA an34) x34 [.tmp 2] Try.f34:=fiA Try.func34 mixed
theorem deep_meaning (e : Ex) (hsm : deepF e ≤ 1000000) : CallOK Try.prog 34 [.agg (exr e)] [] (.int .i64 (deepF e : Int)) []:=by
 induction e using Ex.ind with
 | h e ih=>
  have he:=exr_eq e
  rw [deepF_eq] at hsm ⊢
  refine fi34.op ?_
  (refine Sg.h ?_;try repeat' ((with_reducible first|refine brA ?_|refine brE fun _=>?_|refine spl ⟨?_,?_⟩<;>intro _)<;>((try simp -implicitDefEqProofs(disch:=first|assumption|(try simp only[lens]);omega -splitDisjunctions)))))
  refine W_of fun Q hQ=>?_
  obtain ⟨M,hM⟩ : ∃ M,deepsF e.kids = M:=⟨_,rfl⟩
  have hkd : ∀ q ∈ e.kids,deepF q ≤ M:=fun q hq=>hM ▸ deeps_mem q hq
  rw [hM] at hsm hQ
  have main : ∀ n i d,i + n = e.kids.length → max d (deepsF (e.kids.drop i)) = M → Q [(1,.ptr 0 0 0),(3,.int .i64 (d : Int)),(7,.list (e.kids.map exr)),(8,.int .i64 (e.kids.length : Int)),(9,.int .i64 (i : Int))] [.rows 4 [exr e]]:=by
   intro n
   induction n with
   | zero=>
    intro i d hi hd
    rw [List.drop_of_length_le (by omega),deepsF] at hd
    obtain rfl : d = M:=by omega
    have h9 : ((9 : Int) = e.k) = (e.k = 9):=by simp [eq_comm]
    by_cases hk9 : e.k = 9
    ·rw [if_pos (.inl hk9)] at hsm hQ
     apply hQ
     clear hQ
     (refine Sg.h ?_;try repeat' ((with_reducible first|refine brA ?_|refine brE fun _=>?_|refine spl ⟨?_,?_⟩<;>intro _)<;>((try simp -implicitDefEqProofs(disch:=first|assumption|(try simp only[lens]);omega -splitDisjunctions) [hk9]))))
    by_cases hk10 : e.k = 10
    ·rw [if_pos (.inr hk10)] at hsm hQ
     apply hQ
     clear hQ
     (refine Sg.h ?_;try repeat' ((with_reducible first|refine brA ?_|refine brE fun _=>?_|refine spl ⟨?_,?_⟩<;>intro _)<;>((try simp -implicitDefEqProofs(disch:=first|assumption|(try simp only[lens]);omega -splitDisjunctions) [hk9,hk10]))))
    rw [if_neg (fun g=>g.elim hk9 hk10)] at hsm hQ
    apply hQ
    clear hQ
    (refine Sg.h ?_;try repeat' ((with_reducible first|refine brA ?_|refine brE fun _=>?_|refine spl ⟨?_,?_⟩<;>intro _)<;>((try simp -implicitDefEqProofs(disch:=first|assumption|(try simp only[lens]);omega -splitDisjunctions) [hk9,hk10]))))
   | succ n ihn=>
    intro i d hi hd
    have hil : i < e.kids.length:=by omega
    have hc:=ih e.kids[i] (List.getElem_mem hil) (by have:=hkd _ (List.getElem_mem hil);omega)
    rw [List.drop_eq_getElem_cons hil,deepsF] at hd
    have ihn:=ihn (i + 1) (max d (deepF e.kids[i])) (by omega) (by rw [← hd];omega)
    generalize hx : e.kids[i] = x at *
    generalize deepF x = y at *
    have ed : ((max d y : Nat) : Int) = max (d : Int) (y : Int):=by omega
    rw [ed] at ihn
    apply hQ
    clear hQ
    (refine Sg.h ?_;try repeat' ((first|(with_reducible first|refine brA ?_|refine brE fun _=>?_|refine spl ⟨?_,?_⟩<;>intro _)|refine clo hc ?_)<;>((try simp -implicitDefEqProofs(disch:=first|assumption|(try simp only[lens]);omega -splitDisjunctions) [hil,hx]))))
    all_goals first|exact ihn|(refine at2 ihn ?_ ?_<;>simp;done)|(exfalso;first|omega|(simp_all;done)|(simp_all;omega))
  all_goals first|exact main _ 0 0 (Nat.zero_add _) (by rw [List.drop_zero,hM];omega)|(refine at2 main _ 0 0 (Nat.zero_add _) (by rw [List.drop_zero,hM];omega) ?_ ?_<;>simp;done)|(exfalso;first|omega|(simp_all;done)|(simp_all;omega))
end Go.Proofs.Ytbimioonhfhflaa
namespace Go.Proofs.Ytbimioonhfhflaa
open Go Go.Pv
abbrev Ev:=List (ByteArray × Int)
def Keys (L : Ev) : Prop:=(L.map Prod.fst).Nodup
theorem lookI_cons (x : ByteArray) (p : ByteArray × Int) (r : Ev) : lookI x (p :: r) = if x = p.1 then some p.2 else lookI x r:=rfl
theorem map_eraseM {α β : Type} (f : α → β) : ∀ (l : List α) (j : Nat),(l.map f).eraseIdx j = (l.eraseIdx j).map f
 | [],_=>rfl
 | _ :: _,0=>rfl
 | a :: r,j + 1=>by rw [List.map_cons,List.eraseIdx_cons_succ,List.eraseIdx_cons_succ,List.map_cons,map_eraseM f r j]
theorem env_put (x : ByteArray) (v : Int) (L : Ev) (hk : Keys L) : ∃ L',(∀ r,findP (.str x) (mapI L) 0 = some r → putP (.str x) (.int .i64 v) (mapI L) r = mapI L') ∧ Keys L' ∧ ∀ y,lookI y L' = if y = x then some v else lookI y L:=by
 have gen : ∀ (L : Ev) (i : Nat),Keys L → (∀ q ∈ L,q.1 ≠ x) ∧ findP (.str x) (mapI L) i = some none ∨ ∃ j m,findP (.str x) (mapI L) i = some (some (i + j,m)) ∧ j < L.length ∧ Keys (L.set j (x,v)) ∧ (L.set j (x,v)).map Prod.fst = L.map Prod.fst ∧ ∀ y,lookI y (L.set j (x,v)) = if y = x then some v else lookI y L:=by
  intro L
  induction L with
  | nil=>intro i _;exact .inl ⟨fun q h=>(by cases h),rfl⟩
  | cons p r ih=>
   intro i hk
   have hkr : Keys r:=by unfold Keys at hk ⊢;rw [List.map_cons,List.nodup_cons] at hk;exact hk.2
   by_cases h : x = p.1
   ·refine .inr ⟨0,.int .i64 p.2,by simp [mapI,findP,keyEq,h],by simp,?_,?_,fun y => ?_⟩
    ·unfold Keys at hk ⊢;simpa [h] using hk
    ·simp [h]
    ·rw [List.set_cons_zero,lookI_cons,lookI_cons]
     dsimp only
     by_cases hy : y = x
     ·rw [if_pos hy,if_pos hy]
     ·rw [if_neg hy,if_neg hy,if_neg (fun g=>hy (g.trans h.symm))]
   ·rcases ih (i + 1) hkr with ⟨h1,h2⟩ | ⟨j,m,h1,h2,h3,h4,h5⟩
    ·refine .inl ⟨fun q hq => ?_,?_⟩
     ·cases hq with
      | head=>exact fun g=>h g.symm
      | tail _ hq=>exact h1 q hq
     ·simpa [mapI,findP,keyEq,h] using h2
    ·refine .inr ⟨j + 1,m,?_,by simp; omega,?_,?_,fun y => ?_⟩
     ·rw [show i + (j + 1) = i + 1 + j by omega]
      simpa [mapI,findP,keyEq,h] using h1
     ·unfold Keys at hk ⊢
      rw [List.set_cons_succ,List.map_cons,h4]
      simpa using hk
     ·rw [List.set_cons_succ,List.map_cons,h4,List.map_cons]
     ·rw [List.set_cons_succ,lookI_cons,lookI_cons,h5]
      by_cases hy : y = p.1
      ·rw [if_pos hy,if_neg (fun g=>h (g.symm.trans hy)),if_pos hy]
      ·rw [if_neg hy,if_neg hy]
 rcases gen L 0 hk with ⟨h1,h2⟩ | ⟨j,m,h1,h2,h3,h4,h5⟩
 ·refine ⟨L ++ [(x,v)],fun r hr => ?_,?_,fun y => ?_⟩
  ·rw [h2] at hr
   cases hr
   rw [putP_none,mapI_snoc]
  ·unfold Keys at hk ⊢
   rw [List.map_append,List.nodup_append]
   refine ⟨hk,by simp,fun a ha b hb=>?_⟩
   obtain ⟨q,hq,rfl⟩:=List.mem_map.1 ha
   simp only [List.map_cons,List.map_nil,List.mem_singleton] at hb
   rw [hb]
   exact h1 q hq
  ·clear h2 hk
   induction L with
   | nil=>simp [lookI]
   | cons p r ih=>
    rw [List.cons_append,lookI_cons,lookI_cons,ih fun q hq=>h1 q (by simp [hq])]
    by_cases hy : y = p.1
    ·rw [if_pos hy,if_neg (fun g=>h1 p (by simp) (hy.symm.trans g)),if_pos hy]
    ·rw [if_neg hy,if_neg hy]
 ·refine ⟨L.set j (x,v),fun r hr => ?_,h3,h5⟩
  rw [h1] at hr
  cases hr
  rw [putP_some,Nat.zero_add]
  simp [mapI,List.map_set]
theorem env_del (x : ByteArray) (L : Ev) (hk : Keys L) : ∃ L',(∀ r,findP (.str x) (mapI L) 0 = some r → delP (mapI L) r = mapI L') ∧ Keys L' ∧ ∀ y,lookI y L' = if y = x then none else lookI y L:=by
 have gen : ∀ (L : Ev) (i : Nat),Keys L → (∀ q ∈ L,q.1 ≠ x) ∧ findP (.str x) (mapI L) i = some none ∨ ∃ j m,findP (.str x) (mapI L) i = some (some (i + j,m)) ∧ Keys (L.eraseIdx j) ∧ (∀ q ∈ L.eraseIdx j,q ∈ L) ∧ ∀ y,lookI y (L.eraseIdx j) = if y = x then none else lookI y L:=by
  intro L
  induction L with
  | nil=>intro i _;exact .inl ⟨fun q h=>(by cases h),rfl⟩
  | cons p r ih=>
   intro i hk
   have hk2:=hk
   unfold Keys at hk2
   rw [List.map_cons,List.nodup_cons] at hk2
   have hkr : Keys r:=hk2.2
   by_cases h : x = p.1
   ·refine .inr ⟨0,.int .i64 p.2,by simp [mapI,findP,keyEq,h],by simpa using hkr,fun q hq => by simp at hq; simp [hq],fun y => ?_⟩
    rw [List.eraseIdx_cons_zero,lookI_cons]
    by_cases hy : y = x
    ·rw [if_pos hy]
     have : ∀ r : Ev,p.1 ∉ r.map Prod.fst → lookI p.1 r = none:=by
      intro r
      induction r with
      | nil=>intro _;rfl
      | cons a s ih=>
       intro hn
       rw [List.map_cons,List.mem_cons,not_or] at hn
       rw [lookI_cons,if_neg hn.1,ih hn.2]
     rw [hy,h,this r hk2.1]
    ·rw [if_neg hy,if_neg (fun g=>hy (g.trans h.symm))]
   ·rcases ih (i + 1) hkr with ⟨h1,h2⟩ | ⟨j,m,h1,h3,h4,h5⟩
    ·refine .inl ⟨fun q hq => ?_,?_⟩
     ·cases hq with
      | head=>exact fun g=>h g.symm
      | tail _ hq=>exact h1 q hq
     ·simpa [mapI,findP,keyEq,h] using h2
    ·refine .inr ⟨j + 1,m,?_,?_,fun q hq => ?_,fun y => ?_⟩
     ·rw [show i + (j + 1) = i + 1 + j by omega]
      simpa [mapI,findP,keyEq,h] using h1
     ·unfold Keys at h3 ⊢
      rw [List.eraseIdx_cons_succ,List.map_cons,List.nodup_cons]
      refine ⟨fun g=>hk2.1 ?_,h3⟩
      obtain ⟨q,hq,e⟩:=List.mem_map.1 g
      exact List.mem_map.2 ⟨q,h4 q hq,e⟩
     ·rw [List.eraseIdx_cons_succ] at hq
      cases hq with
      | head=>simp
      | tail _ hq=>exact List.mem_cons_of_mem _ (h4 q hq)
     ·rw [List.eraseIdx_cons_succ,lookI_cons,lookI_cons,h5]
      by_cases hy : y = p.1
      ·rw [if_pos hy,if_neg (fun g=>h (g.symm.trans hy)),if_pos hy]
      ·rw [if_neg hy,if_neg hy]
 rcases gen L 0 hk with ⟨h1,h2⟩ | ⟨j,m,h1,h3,h4,h5⟩
 ·refine ⟨L,fun r hr => ?_,hk,fun y => ?_⟩
  ·rw [h2] at hr
   cases hr
   rw [delP_none]
  ·split
   ·rename_i hy
    rw [hy]
    clear h2 hk
    induction L with
    | nil=>rfl
    | cons p r ih=>
     rw [lookI_cons,if_neg (fun g=>h1 p (by simp) g.symm),ih fun q hq=>h1 q (by simp [hq])]
   ·rfl
 ·refine ⟨L.eraseIdx j,fun r hr => ?_,h3,h5⟩
  rw [h1] at hr
  cases hr
  rw [delP_some,Nat.zero_add]
  unfold mapI
  exact map_eraseM _ _ _
open Classical in
noncomputable def putI (x : ByteArray) (v : Int) (L : Ev) : Ev:=if h : Keys L then (env_put x v L h).choose else L
open Classical in
noncomputable def delI (x : ByteArray) (L : Ev) : Ev:=if h : Keys L then (env_del x L h).choose else L
section
variable {x : ByteArray} {v : Int} {L : Ev} (h : Keys L)
include h
theorem putI_put {r : Option (Nat × PV)} (hr : findP (.str x) (mapI L) 0 = some r) : putP (.str x) (.int .i64 v) (mapI L) r = mapI (putI x v L):=by
 unfold putI;rw [dif_pos h];exact (env_put x v L h).choose_spec.1 r hr
theorem putI_keys : Keys (putI x v L):=by unfold putI;rw [dif_pos h];exact (env_put x v L h).choose_spec.2.1
theorem putI_look (y : ByteArray) : lookI y (putI x v L) = if y = x then some v else lookI y L:=by unfold putI;rw [dif_pos h];exact (env_put x v L h).choose_spec.2.2 y
theorem delI_del {r : Option (Nat × PV)} (hr : findP (.str x) (mapI L) 0 = some r) : delP (mapI L) r = mapI (delI x L):=by
 unfold delI;rw [dif_pos h];exact (env_del x L h).choose_spec.1 r hr
theorem delI_keys : Keys (delI x L):=by unfold delI;rw [dif_pos h];exact (env_del x L h).choose_spec.2.1
theorem delI_look (y : ByteArray) : lookI y (delI x L) = if y = x then none else lookI y L:=by unfold delI;rw [dif_pos h];exact (env_del x L h).choose_spec.2.2 y
end
end Go.Proofs.Ytbimioonhfhflaa
