import Derived.Test.YtbimioonhfhflaaDMnI
set_option linter.unusedVariables false
set_option linter.unusedSimpArgs false
set_option maxRecDepth 100000
set_option maxHeartbeats 4000000
namespace Go.Proofs.Ytbimioonhfhflaa
open Go Go.Pv
mutual
def kwF (F : List Fn) (L : Ev) (B : List ByteArray) : Wd → Bool
 | .mk nm l=>if isNameB nm = true then (lookI nm L).isSome || B.any (fun y=>decide (nm = y)) else (funAt nm F).any (fun f=>decide (f.ar = (l.length : Int))) && kwsF F L B l
def kwsF (F : List Fn) (L : Ev) (B : List ByteArray) : List Wd → Bool
 | []=>true
 | w :: r=>kwF F L B w && kwsF F L B r
end
theorem kwF_eq {F : List Fn} {L : Ev} {B : List ByteArray} (w : Wd) : kwF F L B w = if isNameB w.nm = true then (lookI w.nm L).isSome || B.any (fun y=>decide (w.nm = y)) else (funAt w.nm F).any (fun f=>decide (f.ar = (w.args.length : Int))) && kwsF F L B w.args:=by
 cases w with | mk a l=>rw [kwF];rfl
theorem kwsF_all {F : List Fn} {L : Ev} {B : List ByteArray} : ∀ l : List Wd,kwsF F L B l = l.all (kwF F L B)
 | []=>rfl
 | w :: r=>by rw [kwsF,kwsF_all r,List.all_cons]
def bindB (k : Int) (nm : ByteArray) (B : List ByteArray) : List ByteArray:=if k = 9 ∨ k = 10 then B ++ [nm] else B
mutual
def exK (F : List Fn) (P : List Pd) (L : Ev) : Ex → List ByteArray → Bool
 | .mk k nm ws l=>fun B=>(!decide (k = 1) || (predAt nm P).any (fun p=>decide (p.ar = (ws.length : Int)))) && kwsF F L B ws && exsK F P L l (bindB k nm B)
def exsK (F : List Fn) (P : List Pd) (L : Ev) : List Ex → List ByteArray → Bool
 | []=>fun _=>true
 | e :: r=>fun B=>exK F P L e B && exsK F P L r B
end
theorem exK_eq {F : List Fn} {P : List Pd} {L : Ev} (e : Ex) (B : List ByteArray) : exK F P L e B = ((!decide (e.k = 1) || (predAt e.nm P).any (fun p=>decide (p.ar = (e.words.length : Int)))) && kwsF F L B e.words && exsK F P L e.kids (bindB e.k e.nm B)):=by
 cases e with | mk k a w l=>rw [exK];rfl
theorem exsK_all {F : List Fn} {P : List Pd} {L : Ev} {B : List ByteArray} : ∀ l : List Ex,exsK F P L l B = l.all (fun e=>exK F P L e B)
 | []=>rfl
 | w :: r=>by
  rw [exsK,List.all_cons]
  dsimp only
  rw [exsK_all r]
def lastI (x : ByteArray) : List ByteArray → List Int → Option Int
 | n :: r,v :: q=>match lastI x r q with
  | some m=>some m
  | none=>if n = x then some v else none
 | _,_=>none
mutual
def wordR (N : Int) (F : List Fn) (ns : List ByteArray) (vs : List Int) : Wd → Int
 | .mk nm l=>if isNameB nm = true then (lastI nm ns vs).getD (-1) else match wordsR N F ns vs l (0,1) with
  | none=>-1
  | some q=>match F.find? (fun f=>decide (f.name = nm) && decide (f.ar = (l.length : Int))) with
   | some f=>f.tab.getD q.1.toNat 0
   | none=>-1
def wordsR (N : Int) (F : List Fn) (ns : List ByteArray) (vs : List Int) : List Wd → Int × Int → Option (Int × Int)
 | []=>fun p=>some p
 | w :: r=>fun p=>if wordR N F ns vs w < 0 then none else wordsR N F ns vs r (IntKind.i64.wrap (p.1 + IntKind.i64.wrap (wordR N F ns vs w * p.2)),IntKind.i64.wrap (p.2 * N))
end
theorem wordR_eq {N : Int} {F : List Fn} {ns : List ByteArray} {vs : List Int} (w : Wd) : wordR N F ns vs w = if isNameB w.nm = true then (lastI w.nm ns vs).getD (-1) else match wordsR N F ns vs w.args (0,1) with
  | none=>-1
  | some q=>match F.find? (fun f=>decide (f.name = w.nm) && decide (f.ar = (w.args.length : Int))) with
   | some f=>f.tab.getD q.1.toNat 0
   | none=>-1:=by
 cases w with | mk a l=>rw [wordR];rfl
theorem wrap_in {a : Int} (h1 : -1000000000 ≤ a) (h2 : a ≤ 1000000000) : IntKind.i64.wrap a = a:=wrap64 (by omega) (by omega)
theorem pow8 {n : Int} (h0 : 0 < n) (h8 : n ≤ 8) {k : Nat} (hk : k ≤ 6) : 1 ≤ n ^ k ∧ n ^ k ≤ 262144:=by
 have h1:=pow_le8 (n:=n) (by omega) h8 k hk
 have : 0 < n ^ k:=Int.pow_pos h0
 omega
def plR (N : Int) (v : Wd → Int) : List Wd → Int
 | []=>0
 | w :: r=>v w + N * plR N v r
theorem plR_range {N : Int} (h0 : 0 < N) {v : Wd → Int} : ∀ {l : List Wd},(∀ w ∈ l,0 ≤ v w ∧ v w < N) → 0 ≤ plR N v l ∧ plR N v l < N ^ l.length
 | [],_=>by rw [plR];simp
 | a :: r,h=>by
  have ih:=plR_range h0 (l:=r) fun w hw=>h w (by simp [hw])
  have h1:=h a (by simp)
  rw [plR,List.length_cons,Int.pow_succ]
  have e1 : 0 ≤ N * plR N v r:=Int.mul_nonneg (by omega) ih.1
  have e2 : N * (plR N v r + 1) ≤ N * N ^ r.length:=Int.mul_le_mul_of_nonneg_left (by omega) (by omega)
  rw [Int.mul_add,Int.mul_one] at e2
  rw [Int.mul_comm (N ^ r.length)]
  omega
theorem plR_place {N : Int} {F : List Fn} {E : ByteArray → Int} {v : Wd → Int} : ∀ {l : List Wd},(∀ w ∈ l,v w = wordV N F E w) → plR N v l = placeV N F E l
 | [],_=>by rw [plR,placeV]
 | a :: r,h=>by
  rw [plR,placeV,plR_place (l:=r) fun w hw=>h w (by simp [hw]),h a (by simp),Int.mul_comm]
  omega
theorem wordsR_none {N : Int} {F : List Fn} {ns : List ByteArray} {vs : List Int} : ∀ (l : List Wd) (p : Int × Int),wordsR N F ns vs l p = none ↔ ∃ w ∈ l,wordR N F ns vs w < 0
 | [],p=>by rw [wordsR];simp
 | w :: r,p=>by
  rw [wordsR]
  dsimp only
  by_cases h : wordR N F ns vs w < 0
  ·rw [if_pos h];simp [h]
  ·rw [if_neg h,wordsR_none r];simp [h]
theorem wordsR_run {N : Int} (h0 : 0 < N) (h8 : N ≤ 8) {F : List Fn} {ns : List ByteArray} {vs : List Int} : ∀ (l : List Wd),(∀ w ∈ l,0 ≤ wordR N F ns vs w ∧ wordR N F ns vs w < N) → ∀ (j : Nat) (p : Int),0 ≤ p → p < N ^ j → j + l.length ≤ 3 → wordsR N F ns vs l (p,N ^ j) = some (p + N ^ j * plR N (wordR N F ns vs) l,N ^ (j + l.length))
 | [],_,j,p,_,_,_=>by rw [wordsR,plR];simp
 | w :: r,h,j,p,hp,hpj,hl=>by
  have h1:=h w (by simp)
  rw [List.length_cons] at hl
  have b1:=pow8 h0 h8 (k:=j) (by omega)
  have b2:=pow8 h0 h8 (k:=j + 1) (by omega)
  rw [Int.pow_succ] at b2
  have e1 : 0 ≤ wordR N F ns vs w * N ^ j:=Int.mul_nonneg h1.1 (by omega)
  have e2 : (wordR N F ns vs w + 1) * N ^ j ≤ N * N ^ j:=Int.mul_le_mul_of_nonneg_right (by omega) (by omega)
  rw [Int.add_mul,Int.one_mul,Int.mul_comm N] at e2
  rw [wordsR]
  dsimp only
  have w1:=wrap_in (a:=wordR N F ns vs w * N ^ j) (by omega) (by omega)
  have w2:=wrap_in (a:=p + wordR N F ns vs w * N ^ j) (by omega) (by omega)
  have w3:=wrap_in (a:=N ^ j * N) (by omega) (by omega)
  have ih:=wordsR_run h0 h8 (F:=F) (ns:=ns) (vs:=vs) r (fun w hw=>h w (by simp [hw])) (j + 1) (p + wordR N F ns vs w * N ^ j) (by omega) (by rw [Int.pow_succ];omega) (by omega)
  have e3 : N ^ (j + 1) * plR N (wordR N F ns vs) r = N ^ j * (N * plR N (wordR N F ns vs) r):=by rw [Int.pow_succ,Int.mul_assoc]
  have e4 : N ^ j * wordR N F ns vs w = wordR N F ns vs w * N ^ j:=Int.mul_comm _ _
  rw [e3] at ih
  rw [if_neg (by omega),w1,w2,w3,show N ^ j * N = N ^ (j + 1) from (Int.pow_succ _ _).symm,ih,plR,Int.mul_add,List.length_cons,e4,show j + 1 + r.length = j + (r.length + 1) by omega,Int.add_assoc]
theorem find_two {F : List Fn} (hn : (F.map Fn.name).Nodup) (x : ByteArray) (c : Int) : F.find? (fun f=>decide (f.name = x) && decide (f.ar = c)) = (funAt x F).filter fun f=>decide (f.ar = c):=by
 induction F with
 | nil=>rfl
 | cons g r ih=>
  rw [List.map_cons,List.nodup_cons] at hn
  have ih:=ih hn.2
  unfold funAt at ih ⊢
  by_cases h : g.name = x
  ·have h' : x = g.name := h.symm
   by_cases hc : g.ar = c
   ·have e1 : (decide (g.name = x) && decide (g.ar = c)) = true := by simp [h,hc]
    have e2 : decide (x = g.name) = true:=decide_eq_true h'
    rw [List.find?_cons,List.find?_cons,e1,e2]
    dsimp only
    rw [Option.filter_some,if_pos (by simpa using hc)]
   ·have e1 : (decide (g.name = x) && decide (g.ar = c)) = false := by simp [hc]
    have e2 : decide (x = g.name) = true:=by simp [h']
    rw [List.find?_cons,List.find?_cons,e1,e2]
    dsimp only
    rw [Option.filter_some,if_neg (by simpa using hc)]
    rw [List.find?_eq_none]
    intro f hf
    have : ¬ f.name = x:=fun g'=>hn.1 (by rw [h,← g'];exact List.mem_map_of_mem hf)
    simp [this]
  ·have h' : ¬ x = g.name := fun g' => h g'.symm
   have e1 : (decide (g.name = x) && decide (g.ar = c)) = false:=by simp [h]
   have e2 : decide (x = g.name) = false:=by simp [h']
   rw [List.find?_cons,List.find?_cons,e1,e2]
   exact ih
theorem lastI_range {N : Int} {x : ByteArray} : ∀ {ns : List ByteArray} {vs : List Int},(∀ v ∈ vs,0 ≤ v ∧ v < N) → ∀ m,lastI x ns vs = some m → 0 ≤ m ∧ m < N
 | [],vs,h,m,hm=>by simp [lastI] at hm
 | n :: r,[],h,m,hm=>by simp [lastI] at hm
 | n :: r,v :: q,h,m,hm=>by
  rw [lastI] at hm
  cases hl : lastI x r q with
  | some m'=>
   rw [hl] at hm
   cases hm
   exact lastI_range (fun v hv=>h v (by simp [hv])) _ hl
  | none=>
   rw [hl] at hm
   dsimp only at hm
   split at hm
   ·cases hm;exact h v (by simp)
   ·cases hm
theorem lastI_some {x : ByteArray} : ∀ {ns : List ByteArray} {vs : List Int},ns.length = vs.length → (lastI x ns vs).isSome = ns.any fun y=>decide (x = y)
 | [],[],_=>rfl
 | [],v :: q,h=>by cases h
 | n :: r,[],h=>by cases h
 | n :: r,v :: q,h=>by
  have ih:=lastI_some (x:=x) (ns:=r) (vs:=q) (by simpa using h)
  rw [lastI,List.any_cons,← ih]
  cases hl : lastI x r q with
  | some m=>simp
  | none=>
   dsimp only
   by_cases he : n = x
   ·simp [he]
   ·simp [he,Ne.symm he]
def envLs (ns : List ByteArray) (vs : List Int) (x : ByteArray) : Int:=(lastI x ns vs).getD 0
theorem envLs_range {N : Int} (h0 : 0 < N) {ns : List ByteArray} {vs : List Int} (h : ∀ v ∈ vs,0 ≤ v ∧ v < N) (x : ByteArray) : 0 ≤ envLs ns vs x ∧ envLs ns vs x < N:=by
 unfold envLs
 cases hl : lastI x ns vs with
 | none=>exact ⟨Int.le_refl _,h0⟩
 | some m=>exact lastI_range h m hl
theorem wordR_spec {N : Int} (h0 : 0 < N) (h8 : N ≤ 8) {F : List Fn} (hF : FunsOk N F) (hn : (F.map Fn.name).Nodup) {ns : List ByteArray} {vs : List Int} (hl : ns.length = vs.length) (hv : ∀ v ∈ vs,0 ≤ v ∧ v < N) (w : Wd) :
  if kwF F [] ns w = true then wordR N F ns vs w = wordV N F (envLs ns vs) w ∧ 0 ≤ wordR N F ns vs w ∧ wordR N F ns vs w < N else wordR N F ns vs w = -1:=by
 induction w using Wd.ind with
 | h w ih=>
  rw [kwF_eq,wordR_eq,wordV_eq]
  by_cases hnm : isNameB w.nm = true
  ·rw [if_pos hnm,if_pos hnm,if_pos hnm,← lastI_some hl]
   unfold envLs
   cases hla : lastI w.nm ns vs with
   | none=>simp [lookI]
   | some m=>
    have:=lastI_range hv m hla
    simp [lookI,this]
  ·rw [if_neg hnm,if_neg hnm,if_neg hnm,kwsF_all,find_two hn]
   by_cases hall : (w.args.all (kwF F [] ns)) = true
   ·have hr : ∀ a ∈ w.args,wordR N F ns vs a = wordV N F (envLs ns vs) a ∧ 0 ≤ wordR N F ns vs a ∧ wordR N F ns vs a < N := fun a ha => by
     have:=ih a ha
     rw [if_pos (List.all_eq_true.1 hall a ha)] at this
     exact this
    rw [hall,Bool.and_true]
    cases hf : funAt w.nm F with
    | none=>
     have : ¬ (Option.any (fun f=>decide (f.ar = (w.args.length : Int))) (none : Option Fn) = true):=by simp
     rw [if_neg this]
     cases wordsR N F ns vs w.args (0,1) with
     | none=>rfl
     | some q=>rfl
    | some f=>
     by_cases har : f.ar = (w.args.length : Int)
     ·obtain ⟨h1,h2,h3,h4⟩ := tabF_zero (hF f (funAt_mem hf))
      rw [har,Int.toNat_natCast] at h3
      have hrun:=wordsR_run h0 h8 (F:=F) (ns:=ns) (vs:=vs) w.args (fun a ha=>(hr a ha).2) 0 0 (by omega) (by simp) (by omega)
      have hpr:=plR_range h0 (l:=w.args) fun a ha=>(hr a ha).2
      rw [Int.pow_zero,Int.one_mul,Int.zero_add] at hrun
      rw [hrun,plR_place fun a ha=>(hr a ha).1]
      rw [plR_place fun a ha=>(hr a ha).1] at hpr
      have hlt : (placeV N F (envLs ns vs) w.args).toNat < f.tab.length:=by omega
      rw [if_pos (by simp [har])]
      simp only [Option.filter_some,har,decide_true,if_true,Option.getD_some]
      refine ⟨trivial,?_⟩
      rw [List.getD_eq_getElem?_getD,List.getElem?_eq_getElem hlt]
      exact h4 _ (List.getElem_mem hlt)
     ·rw [if_neg (by simp [har])]
      cases wordsR N F ns vs w.args (0,1) with
      | none=>rfl
      | some q=>simp [Option.filter_some,har]
   ·have hex : ∃ a ∈ w.args,wordR N F ns vs a < 0 := by
     rw [Bool.not_eq_true,List.all_eq_false] at hall
     obtain ⟨a,ha,hk⟩:=hall
     refine ⟨a,ha,?_⟩
     have:=ih a ha
     rw [if_neg hk] at this
     omega
    rw [(wordsR_none w.args (0,1)).2 hex,if_neg]
    rw [Bool.and_eq_true]
    exact fun g=>hall g.2
end Go.Proofs.Ytbimioonhfhflaa
namespace Go.Proofs.Ytbimioonhfhflaa
open Go Go.Pv
theorem manyM_ok {p : Nat} {key : ByteArray} {c : Nat} {s s' : WS} (h : manyW p key c s = .ok s') : s'.1 = s.1:=by
 unfold manyW at h
 split at h
 ·split at h
  ·cases h;rfl
  ·cases h
 ·cases h;rfl
theorem foldM_ok : ∀ (l : List Nd) (s s' : WS),foldW l s = .ok s' → s.1 ≤ 200 → s.1 + l.length ≤ 200 ∧ ∀ x ∈ l,∃ o,chkN x = .ok o
 | [],s,s',_,h=>⟨h,fun x hx=>by cases hx⟩
 | x :: r,s,s',h,hs=>by
  rw [foldW] at h
  by_cases h2 : s.1 = 200
  ·rw [stepW_200 x s h2] at h;cases h
  rw [stepW_eq x s h2] at h
  have next : ∀ (s1 : WS) (o),chkN x = .ok o → s1.1 = s.1 + 1 → foldW r s1 = .ok s' → s.1 + (x :: r).length ≤ 200 ∧ ∀ y ∈ x :: r,∃ o,chkN y = .ok o:=by
   intro s1 o hc h1 h
   obtain ⟨g1,g2⟩:=foldM_ok r s1 s' h (by omega)
   refine ⟨by rw [List.length_cons];omega,fun y hy=>?_⟩
   rcases List.mem_cons.1 hy with rfl | hy
   ·exact ⟨o,hc⟩
   ·exact g2 y hy
  cases hc : chkN x with
  | error c=>rw [hc] at h;cases h
  | ok o=>
   rw [hc] at h
   cases o with
   | none=>exact next _ _ hc rfl h
   | some q=>
    obtain ⟨b,nm,c⟩:=q
    dsimp only at h
    cases hm : manyW s.1 (encW b nm) c (s.1 + 1,s.2) with
    | error e=>rw [hm] at h;cases h
    | ok s1=>
     rw [hm] at h
     exact next s1 _ hc (manyM_ok hm) h
theorem exprM_bad {e : Ex} {s : WS} {c : Int × Nat} {s' : WS} (h : exprW e s = .error (c,s')) : c.1 ≠ 0:=by
 rw [exprW_fold] at h
 have step : ∀ (x : Nd) (s : WS) (er : (Int × Nat) × WS),stepW x s = .error er → er.1.1 ≠ 0:=by
  intro x s er he
  by_cases h2 : s.1 = 200
  ·rw [stepW_200 x s h2] at he;cases he;intro g;cases g
  rw [stepW_eq x s h2] at he
  cases hc : chkN x with
  | error c=>
   rw [hc] at he
   cases he
   cases x with
   | w x=>
    rw [chkN,chkW] at hc
    split at hc
    ·cases hc
    split at hc
    ·split at hc
     ·cases hc;intro g;cases g
     ·cases hc
    ·cases hc;intro g;cases g
   | e x=>
    rw [chkN,chkX] at hc
    split at hc
    ·cases hc;intro g;cases g
    split at hc
    ·cases hc;intro g;cases g
    split at hc
    ·split at hc
     ·cases hc
     ·cases hc;intro g;cases g
    split at hc
    ·split at hc
     ·cases hc
     ·cases hc;intro g;cases g
    split at hc
    ·cases hc
    ·cases hc;intro g;cases g
  | ok o=>
   rw [hc] at he
   cases o with
   | none=>cases he
   | some q=>
    obtain ⟨b,nm,c⟩:=q
    dsimp only at he
    unfold manyW at he
    split at he
    ·split at he
     ·cases he
     ·cases he;intro g;cases g
    ·cases he
 have all : ∀ (l : List Nd) (s : WS) (er : (Int × Nat) × WS),foldW l s = .error er → er.1.1 ≠ 0:=by
  intro l
  induction l with
  | nil=>intro s er he;rw [foldW] at he;cases he
  | cons x r ih=>
   intro s er he
   rw [foldW] at he
   cases hs : stepW x s with
   | error e2=>rw [hs] at he;cases he;exact step x s _ hs
   | ok s1=>rw [hs] at he;exact ih s1 er he
 exact all _ _ _ h
theorem checkM_ok {e : Ex} (h : (checkX e).1 = 0) : (ndE e).length ≤ 200 ∧ ∀ x ∈ ndE e,∃ o,chkN x = .ok o:=by
 have h1 : ∃ s,foldW (ndE e) (0,[]) = .ok s:=by
  rw [← exprW_fold]
  unfold checkX at h
  cases hw : exprW e (0,[]) with
  | ok s=>exact ⟨s,rfl⟩
  | error er=>
   obtain ⟨er,s⟩:=er
   rw [hw] at h
   exact absurd h (exprM_bad hw)
 obtain ⟨s,h1⟩:=h1
 obtain ⟨h2,h3⟩:=foldM_ok _ _ _ h1 (by decide)
 exact ⟨by simpa using h2,h3⟩
theorem ndEs_mem {w : Ex} {x : Nd} : ∀ {l : List Ex},w ∈ l → x ∈ ndE w → x ∈ ndEs l
 | [],h,_=>by cases h
 | v :: r,h,hx=>by
  rw [ndEs,List.mem_append]
  rcases List.mem_cons.1 h with rfl | h
  ·exact .inl hx
  ·exact .inr (ndEs_mem h hx)
theorem kwF_ok {F : List Fn} {L : Ev} {B : List ByteArray} (w : Wd) (h : kwF F L B w = true) : wordOkF F w = true:=by
 induction w using Wd.ind with
 | h w ih=>
  rw [kwF_eq] at h
  rw [wordOkF_eq]
  by_cases hn : isNameB w.nm = true
  ·rw [hn,Bool.true_or]
  ·rw [if_neg hn,Bool.and_eq_true,kwsF_all] at h
   have hw : ∀ l : List Wd,(∀ a ∈ l,wordOkF F a = true) → wordsOkF F l = true:=by
    intro l
    induction l with
    | nil=>intro _;rfl
    | cons a r ihr=>intro hl;rw [wordsOkF,hl a (by simp),ihr fun b hb=>hl b (by simp [hb])];rfl
   rw [h.1,hw w.args fun a ha=>ih a ha (List.all_eq_true.1 h.2 a ha)]
   simp
theorem kwsF_ok {F : List Fn} {L : Ev} {B : List ByteArray} (l : List Wd) (h : kwsF F L B l = true) : wordsOkF F l = true:=by
 induction l with
 | nil=>rfl
 | cons a r ihr=>
  rw [kwsF,Bool.and_eq_true] at h
  rw [wordsOkF,kwF_ok a h.1,ihr h.2];rfl
theorem exsOk_all {F : List Fn} {P : List Pd} : ∀ l : List Ex,exsOk F P l = l.all (exOk F P)
 | []=>rfl
 | w :: r=>by rw [exsOk,exsOk_all r,List.all_cons]
theorem exK_ok {F : List Fn} {P : List Pd} {L : Ev} (e : Ex) : (∀ x ∈ ndE e,∃ o,chkN x = .ok o) → ∀ B,exK F P L e B = true → exOk F P e = true:=by
 induction e using Ex.ind with
 | h e ih=>
  intro hn B h
  obtain ⟨o,ho⟩:=hn (.e e) (by rw [ndE_eq];simp)
  rw [exK_eq,exsK_all,Bool.and_eq_true,Bool.and_eq_true] at h
  obtain ⟨⟨h1,h2⟩,h3⟩:=h
  rw [exOk_eq,exsOk_all,Bool.and_eq_true]
  refine ⟨?_,List.all_eq_true.2 fun q hq=>ih q hq (fun x hx=>hn x (by rw [ndE_eq];simp [ndEs_mem hq hx])) _ (List.all_eq_true.1 h3 q hq)⟩
  unfold exH
  rw [kwsF_ok _ h2,h1,Bool.true_and,Bool.and_true]
  apply decide_eq_true
  rw [chkN,chkX] at ho
  split at ho
  ·cases ho
  rename_i g1
  split at ho
  ·cases ho
  rename_i g2
  refine ⟨by omega,by omega,by omega,fun g=>?_⟩
  rw [g] at g2
  simp [wordsN] at g2
  omega
theorem deepF_nd (e : Ex) : deepF e ≤ (ndE e).length:=by
 induction e using Ex.ind with
 | h e ih=>
  rw [deepF_eq,ndE_eq,List.length_cons,List.length_append]
  have : ∀ l : List Ex,(∀ q ∈ l,deepF q ≤ (ndE q).length) → deepsF l ≤ (ndEs l).length:=by
   intro l
   induction l with
   | nil=>intro _;rw [deepsF];omega
   | cons a r ihr=>
    intro hl
    have h1:=hl a (by simp)
    have h2:=ihr fun b hb=>hl b (by simp [hb])
    rw [deepsF,ndEs,List.length_append]
    omega
  have:=this e.kids ih
  split <;> omega
theorem lastI_snoc {x n : ByteArray} {v : Int} : ∀ {ns : List ByteArray} {vs : List Int},ns.length = vs.length → lastI x (ns ++ [n]) (vs ++ [v]) = if x = n then some v else lastI x ns vs
 | [],[],_=>by
  rw [List.nil_append,List.nil_append,lastI]
  simp only [lastI,eq_comm]
 | [],v :: q,h=>by cases h
 | n :: r,[],h=>by cases h
 | a :: r,b :: q,h=>by
  rw [List.cons_append,List.cons_append,lastI,lastI_snoc (by simpa using h),lastI]
  by_cases hx : x = n
  ·rw [if_pos hx,if_pos hx]
  ·rw [if_neg hx,if_neg hx]
theorem envLs_snoc {n : ByteArray} {v : Int} {ns : List ByteArray} {vs : List Int} (h : ns.length = vs.length) : envLs (ns ++ [n]) (vs ++ [v]) = updE (envLs ns vs) n v:=by
 funext x
 unfold envLs updE
 rw [lastI_snoc h]
 split <;> rfl
noncomputable def evOf : List ByteArray → List Int → Ev → Ev
 | n :: r,v :: q,L=>evOf r q (putI n v L)
 | _,_,L=>L
theorem evOf_snoc {n : ByteArray} {v : Int} : ∀ {ns : List ByteArray} {vs : List Int} {L : Ev},ns.length = vs.length → evOf (ns ++ [n]) (vs ++ [v]) L = putI n v (evOf ns vs L)
 | [],[],L,_=>rfl
 | [],v :: q,L,h=>by cases h
 | n :: r,[],L,h=>by cases h
 | a :: r,b :: q,L,h=>by
  rw [List.cons_append,List.cons_append,evOf,evOf_snoc (by simpa using h),evOf]
theorem evOf_keys : ∀ (ns : List ByteArray) (vs : List Int) (L : Ev),Keys L → Keys (evOf ns vs L)
 | [],_,L,h=>by rw [evOf];exact h;simp
 | n :: r,[],L,h=>by rw [evOf];exact h;simp
 | n :: r,v :: q,L,h=>by rw [evOf];exact evOf_keys r q _ (putI_keys h)
theorem evOf_look (x : ByteArray) : ∀ (ns : List ByteArray) (vs : List Int) (L : Ev),Keys L → ns.length = vs.length → lookI x (evOf ns vs L) = match lastI x ns vs with
  | some m=>some m
  | none=>lookI x L
 | [],[],L,h,_=>rfl
 | [],v :: q,L,h,hl=>by cases hl
 | n :: r,[],L,h,hl=>by cases hl
 | n :: r,v :: q,L,h,hl=>by
  rw [evOf,evOf_look x r q _ (putI_keys h) (by simpa using hl),lastI]
  cases lastI x r q with
  | some m=>rfl
  | none=>
   dsimp only
   rw [putI_look h]
   by_cases hx : x = n
   ·rw [if_pos hx,if_pos hx.symm]
   ·rw [if_neg hx,if_neg (fun g=>hx g.symm)]
theorem keys_nil : Keys []:=by unfold Keys;simp
theorem evOf_env {ns : List ByteArray} {vs : List Int} (h : ns.length = vs.length) : envI (evOf ns vs []) = envLs ns vs:=by
 funext x
 unfold envI envLs
 rw [evOf_look x ns vs [] keys_nil h]
 cases lastI x ns vs <;> rfl
theorem kwF_list {F : List Fn} {L : Ev} {ns B : List ByteArray} (hL : ∀ x,(lookI x L).isSome = ns.any fun y=>decide (x = y)) (w : Wd) : kwF F L B w = kwF F [] (ns ++ B) w:=by
 induction w using Wd.ind with
 | h w ih=>
  rw [kwF_eq,kwF_eq,kwsF_all,kwsF_all,List.any_append,hL]
  have : w.args.all (kwF F L B) = w.args.all (kwF F [] (ns ++ B)):=by
   rw [Bool.eq_iff_iff,List.all_eq_true,List.all_eq_true]
   exact ⟨fun h x hx=>(ih x hx) ▸ h x hx,fun h x hx=>(ih x hx).symm ▸ h x hx⟩
  rw [this]
  split
  ·simp [lookI]
  ·rfl
theorem bindB_app {k : Int} {nm : ByteArray} {ns B : List ByteArray} : bindB k nm (ns ++ B) = ns ++ bindB k nm B:=by
 unfold bindB
 split
 ·rw [List.append_assoc]
 ·rfl
theorem exK_list {F : List Fn} {P : List Pd} {L : Ev} {ns : List ByteArray} (hL : ∀ x,(lookI x L).isSome = ns.any fun y=>decide (x = y)) (e : Ex) : ∀ B,exK F P L e B = exK F P [] e (ns ++ B):=by
 induction e using Ex.ind with
 | h e ih=>
  intro B
  rw [exK_eq,exK_eq,kwsF_all,kwsF_all,exsK_all,exsK_all,bindB_app]
  have h1 : e.words.all (kwF F L B) = e.words.all (kwF F [] (ns ++ B)):=by
   rw [Bool.eq_iff_iff,List.all_eq_true,List.all_eq_true]
   exact ⟨fun h x hx=>(kwF_list hL x) ▸ h x hx,fun h x hx=>(kwF_list hL x).symm ▸ h x hx⟩
  have h2 : (e.kids.all fun q=>exK F P L q (bindB e.k e.nm B)) = e.kids.all fun q=>exK F P [] q (ns ++ bindB e.k e.nm B):=by
   rw [Bool.eq_iff_iff,List.all_eq_true,List.all_eq_true]
   exact ⟨fun h x hx=>(ih x hx _) ▸ h x hx,fun h x hx=>(ih x hx _).symm ▸ h x hx⟩
  rw [h1,h2]
theorem evOf_known {ns : List ByteArray} {vs : List Int} (h : ns.length = vs.length) (x : ByteArray) : (lookI x (evOf ns vs [])).isSome = ns.any fun y=>decide (x = y):=by
 rw [evOf_look x ns vs [] keys_nil h,← lastI_some h]
 cases lastI x ns vs <;> rfl
def namF (N : Int) : List ByteArray → List Int → Nat → Int × Int
 | n :: r,v :: q,i=>if isNameB n = false then (8,(i : Int)) else if v < 0 ∨ N ≤ v then (3,(i : Int)) else namF N r q (i + 1)
 | _,_,_=>(0,0)
def hugeF (N : Int) (d : Nat) : Bool:=decide (5000 < N ^ (min d 6)) || decide (6 < d)
def valF (S : Stc) (e : Ex) (ns : List ByteArray) (vs : List Int) : Int × Int:=
 if (stcF S).1 ≠ 0 then stcF S else if (checkX e).1 ≠ 0 then checkX e else if ns.length ≠ vs.length ∨ 20 < ns.length then (9,0)
 else if (namF S.n ns vs 0).1 ≠ 0 then namF S.n ns vs 0 else if exK S.funs S.preds [] e ns = false then (6,0) else if hugeF S.n (deepF e) = true then (2,0) else (0,0)
def valB (S : Stc) (e : Ex) (ns : List ByteArray) (vs : List Int) : Bool:=if (valF S e ns vs).1 = 0 then valV S.n S.funs S.preds e (envLs ns vs) else false
theorem namF_zero {N : Int} : ∀ {ns : List ByteArray} {vs : List Int} {i : Nat},ns.length = vs.length → (namF N ns vs i).1 = 0 → ∀ v ∈ vs,0 ≤ v ∧ v < N
 | [],[],_,_,_,v,hv=>by cases hv
 | [],v :: q,_,h,_,_,_=>by cases h
 | n :: r,[],_,h,_,_,_=>by cases h
 | n :: r,v :: q,i,h,hz,w,hw=>by
  rw [namF] at hz
  split at hz
  ·exact absurd hz (fun g=>by cases g)
  split at hz
  ·exact absurd hz (fun g=>by cases g)
  rcases List.mem_cons.1 hw with rfl | hw
  ·omega
  ·exact namF_zero (by simpa using h) hz w hw
theorem namF_step {N : Int} {ns : List ByteArray} {vs : List Int} {i : Nat} (h1 : i < ns.length) (h2 : i < vs.length) : namF N (ns.drop i) (vs.drop i) i = if isNameB ns[i] = false then (8,(i : Int)) else if vs[i] < 0 ∨ N ≤ vs[i] then (3,(i : Int)) else namF N (ns.drop (i + 1)) (vs.drop (i + 1)) (i + 1):=by
 rw [List.drop_eq_getElem_cons h1,List.drop_eq_getElem_cons h2,namF]
theorem stcF_zero {S : Stc} (h : (stcF S).1 = 0) : 0 < S.n ∧ S.n ≤ 8 ∧ S.funs.length ≤ 10 ∧ S.preds.length ≤ 10 ∧ (S.funs.map Fn.name).Nodup ∧ (S.preds.map Pd.name).Nodup ∧ FunsOk S.n S.funs ∧ PredsOk S.n S.preds ∧ stcF S = (0,0):=by
 unfold stcF at h ⊢
 split at h
 ·exact absurd h (fun g=>by cases g)
 rename_i h1
 split at h
 ·rename_i h2;exact absurd h h2
 rename_i h2
 rw [if_neg h1,if_neg h2]
 have funs : ∀ (r pre : List Fn) (i : Nat),(funsF S.n pre r i).1 = 0 → (pre.map Fn.name).Nodup → ((pre ++ r).map Fn.name).Nodup ∧ ∀ f ∈ r,tabF S.n f = 0:=by
  intro r
  induction r with
  | nil=>intro pre i _ hp;rw [List.append_nil];exact ⟨hp,fun f hf=>by cases hf⟩
  | cons f r ih=>
   intro pre i hz hp
   rw [funsF] at hz
   split at hz
   ·exact absurd hz (fun g=>by cases g)
   rename_i g1
   split at hz
   ·rename_i g2;exact absurd hz g2
   rename_i g2
   have hno : (pre.any fun g=>decide (g.name = f.name)) = false:=by
    cases hb : (pre.any fun g=>decide (g.name = f.name)) with
    | true=>exact absurd (.inr hb) g1
    | false=>rfl
   obtain ⟨a1,a2⟩:=ih (pre ++ [f]) (i + 1) hz (by
    rw [List.map_append,List.nodup_append]
    refine ⟨hp,by simp,fun a ha b hb=>?_⟩
    obtain ⟨g,hg,rfl⟩:=List.mem_map.1 ha
    simp only [List.map_cons,List.map_nil,List.mem_singleton] at hb
    rw [hb]
    have:=List.any_eq_false.1 hno g hg
    simpa using this)
   refine ⟨by rw [List.append_assoc] at a1;exact a1,fun g hg=>?_⟩
   rcases List.mem_cons.1 hg with rfl | hg
   ·exact Decidable.not_not.1 g2
   ·exact a2 g hg
 have preds : ∀ (r pre : List Pd) (i : Nat),(predsF S.n pre r i).1 = 0 → (pre.map Pd.name).Nodup → ((pre ++ r).map Pd.name).Nodup ∧ (∀ f ∈ r,bitF S.n f = 0) ∧ predsF S.n pre r i = (0,0):=by
  intro r
  induction r with
  | nil=>intro pre i _ hp;rw [List.append_nil];exact ⟨hp,(fun f hf=>by cases hf),by rw [predsF]⟩
  | cons f r ih=>
   intro pre i hz hp
   rw [predsF] at hz ⊢
   split at hz
   ·exact absurd hz (fun g=>by cases g)
   rename_i g1
   split at hz
   ·rename_i g2;exact absurd hz g2
   rename_i g2
   rw [if_neg g1,if_neg g2]
   have hno : (pre.any fun g=>decide (g.name = f.name)) = false:=by
    cases hb : (pre.any fun g=>decide (g.name = f.name)) with
    | true=>exact absurd (.inr hb) g1
    | false=>rfl
   obtain ⟨a1,a2,a3⟩:=ih (pre ++ [f]) (i + 1) hz (by
    rw [List.map_append,List.nodup_append]
    refine ⟨hp,by simp,fun a ha b hb=>?_⟩
    obtain ⟨g,hg,rfl⟩:=List.mem_map.1 ha
    simp only [List.map_cons,List.map_nil,List.mem_singleton] at hb
    rw [hb]
    have:=List.any_eq_false.1 hno g hg
    simpa using this)
   refine ⟨by rw [List.append_assoc] at a1;exact a1,fun g hg=>?_,a3⟩
   rcases List.mem_cons.1 hg with rfl | hg
   ·exact Decidable.not_not.1 g2
   ·exact a2 g hg
 obtain ⟨f1,f2⟩:=funs S.funs [] 0 (Decidable.not_not.1 h2) (by simp)
 obtain ⟨p1,p2,p3⟩:=preds S.preds [] S.funs.length h (by simp)
 exact ⟨by omega,by omega,by omega,by omega,f1,p1,f2,p2,p3⟩
theorem valF_zero {S : Stc} {e : Ex} {ns : List ByteArray} {vs : List Int} (h : (valF S e ns vs).1 = 0) : (stcF S).1 = 0 ∧ (checkX e).1 = 0 ∧ ns.length = vs.length ∧ ns.length ≤ 20 ∧ (namF S.n ns vs 0).1 = 0 ∧ exK S.funs S.preds [] e ns = true ∧ hugeF S.n (deepF e) = false ∧ valF S e ns vs = (0,0):=by
 unfold valF at h ⊢
 split at h
 ·rename_i g;exact absurd h g
 rename_i h1
 split at h
 ·rename_i g;exact absurd h g
 rename_i h2
 split at h
 ·exact absurd h (fun g=>by cases g)
 rename_i h3
 split at h
 ·rename_i g;exact absurd h g
 rename_i h4
 split at h
 ·exact absurd h (fun g=>by cases g)
 rename_i h5
 split at h
 ·exact absurd h (fun g=>by cases g)
 rename_i h6
 rw [if_neg h1,if_neg h2,if_neg h3,if_neg h4,if_neg h5,if_neg h6]
 refine ⟨Decidable.not_not.1 h1,Decidable.not_not.1 h2,by omega,by omega,Decidable.not_not.1 h4,by simpa using h5,by simpa using h6,rfl⟩
end Go.Proofs.Ytbimioonhfhflaa
