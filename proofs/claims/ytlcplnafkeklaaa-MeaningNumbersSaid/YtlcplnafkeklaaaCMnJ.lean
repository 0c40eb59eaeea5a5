import Derived.Test.YtlcplnafkeklaaaCMnI
set_option linter.unusedVariables false
set_option linter.unusedSimpArgs false
set_option maxRecDepth 100000
set_option maxHeartbeats 4000000
namespace Go.Proofs.Ytlcplnafkeklaaa
open Go Go.Pv
mutual
def kwF (F : List Fn) (L : Ev) (B : List ByteArray) : Wd → Bool
 | .mk nm l=>if isNameB nm = true then (lookI nm L).isSome || B.any (fun y=>decide (nm = y)) else (funAt nm F).any (fun f=>decide (f.ar = (l.length : Int))) && kwsF F L B l
def kwsF (F : List Fn) (L : Ev) (B : List ByteArray) : List Wd → Bool
 | []=>true
 | w :: r=>kwF F L B w && kwsF F L B r
end
theorem kwF_eq {F : List Fn} {L : Ev} {B : List ByteArray} (w : Wd) : kwF F L B w = if isNameB w.nm = true then (lookI w.nm L).isSome || B.any (fun y=>decide (w.nm = y)) else (funAt w.nm F).any (fun f=>decide (f.ar = (w.args.length : Int))) && kwsF F L B w.args:=by
 cases w with | mk a l=>rw [kwF];rfl
theorem kwsF_all {F : List Fn} {L : Ev} {B : List ByteArray} : ∀ l : List Wd,kwsF F L B l = l.all (kwF F L B)
 | []=>rfl
 | w :: r=>by rw [kwsF,kwsF_all r,List.all_cons]
def bindB (k : Int) (nm : ByteArray) (B : List ByteArray) : List ByteArray:=if k = 9 ∨ k = 10 then B ++ [nm] else B
mutual
def exK (F : List Fn) (P : List Pd) (L : Ev) : Ex → List ByteArray → Bool
 | .mk k nm ws l=>fun B=>(!decide (k = 1) || (predAt nm P).any (fun p=>decide (p.ar = (ws.length : Int)))) && kwsF F L B ws && exsK F P L l (bindB k nm B)
def exsK (F : List Fn) (P : List Pd) (L : Ev) : List Ex → List ByteArray → Bool
 | []=>fun _=>true
 | e :: r=>fun B=>exK F P L e B && exsK F P L r B
end
theorem exK_eq {F : List Fn} {P : List Pd} {L : Ev} (e : Ex) (B : List ByteArray) : exK F P L e B = ((!decide (e.k = 1) || (predAt e.nm P).any (fun p=>decide (p.ar = (e.words.length : Int)))) && kwsF F L B e.words && exsK F P L e.kids (bindB e.k e.nm B)):=by
 cases e with | mk k a w l=>rw [exK];rfl
theorem exsK_all {F : List Fn} {P : List Pd} {L : Ev} {B : List ByteArray} : ∀ l : List Ex,exsK F P L l B = l.all (fun e=>exK F P L e B)
 | []=>rfl
 | w :: r=>by
  rw [exsK,List.all_cons]
  dsimp only
  rw [exsK_all r]
def lastI (x : ByteArray) : List ByteArray → List Int → Option Int
 | n :: r,v :: q=>match lastI x r q with
  | some m=>some m
  | none=>if n = x then some v else none
 | _,_=>none
theorem pow8 {n : Int} (h0 : 0 < n) (h8 : n ≤ 8) {k : Nat} (hk : k ≤ 6) : 1 ≤ n ^ k ∧ n ^ k ≤ 262144:=by
 have h1:=pow_le8 (n:=n) (by omega) h8 k hk
 have : 0 < n ^ k:=Int.pow_pos h0
 omega
theorem lastI_range {N : Int} {x : ByteArray} : ∀ {ns : List ByteArray} {vs : List Int},(∀ v ∈ vs,0 ≤ v ∧ v < N) → ∀ m,lastI x ns vs = some m → 0 ≤ m ∧ m < N
 | [],vs,h,m,hm=>by simp [lastI] at hm
 | n :: r,[],h,m,hm=>by simp [lastI] at hm
 | n :: r,v :: q,h,m,hm=>by
  rw [lastI] at hm
  cases hl : lastI x r q with
  | some m'=>
   rw [hl] at hm
   cases hm
   exact lastI_range (fun v hv=>h v (by simp [hv])) _ hl
  | none=>
   rw [hl] at hm
   dsimp only at hm
   split at hm
   ·cases hm;exact h v (by simp)
   ·cases hm
theorem lastI_some {x : ByteArray} : ∀ {ns : List ByteArray} {vs : List Int},ns.length = vs.length → (lastI x ns vs).isSome = ns.any fun y=>decide (x = y)
 | [],[],_=>rfl
 | [],v :: q,h=>by cases h
 | n :: r,[],h=>by cases h
 | n :: r,v :: q,h=>by
  have ih:=lastI_some (x:=x) (ns:=r) (vs:=q) (by simpa using h)
  rw [lastI,List.any_cons,← ih]
  cases hl : lastI x r q with
  | some m=>simp
  | none=>
   dsimp only
   by_cases he : n = x
   ·simp [he]
   ·simp [he,Ne.symm he]
def envLs (ns : List ByteArray) (vs : List Int) (x : ByteArray) : Int:=(lastI x ns vs).getD 0
theorem envLs_range {N : Int} (h0 : 0 < N) {ns : List ByteArray} {vs : List Int} (h : ∀ v ∈ vs,0 ≤ v ∧ v < N) (x : ByteArray) : 0 ≤ envLs ns vs x ∧ envLs ns vs x < N:=by
 unfold envLs
 cases hl : lastI x ns vs with
 | none=>exact ⟨Int.le_refl _,h0⟩
 | some m=>exact lastI_range h m hl
end Go.Proofs.Ytlcplnafkeklaaa
namespace Go.Proofs.Ytlcplnafkeklaaa
open Go Go.Pv
theorem manyM_ok {p : Nat} {key : ByteArray} {c : Nat} {s s' : WS} (h : manyW p key c s = .ok s') : s'.1 = s.1:=by
 unfold manyW at h
 split at h
 ·split at h
  ·cases h;rfl
  ·cases h
 ·cases h;rfl
theorem foldM_ok : ∀ (l : List Nd) (s s' : WS),foldW l s = .ok s' → s.1 ≤ 200 → s.1 + l.length ≤ 200 ∧ ∀ x ∈ l,∃ o,chkN x = .ok o
 | [],s,s',_,h=>⟨h,fun x hx=>by cases hx⟩
 | x :: r,s,s',h,hs=>by
  rw [foldW] at h
  by_cases h2 : s.1 = 200
  ·rw [stepW_200 x s h2] at h;cases h
  rw [stepW_eq x s h2] at h
  have next : ∀ (s1 : WS) (o),chkN x = .ok o → s1.1 = s.1 + 1 → foldW r s1 = .ok s' → s.1 + (x :: r).length ≤ 200 ∧ ∀ y ∈ x :: r,∃ o,chkN y = .ok o:=by
   intro s1 o hc h1 h
   obtain ⟨g1,g2⟩:=foldM_ok r s1 s' h (by omega)
   refine ⟨by rw [List.length_cons];omega,fun y hy=>?_⟩
   rcases List.mem_cons.1 hy with rfl | hy
   ·exact ⟨o,hc⟩
   ·exact g2 y hy
  cases hc : chkN x with
  | error c=>rw [hc] at h;cases h
  | ok o=>
   rw [hc] at h
   cases o with
   | none=>exact next _ _ hc rfl h
   | some q=>
    obtain ⟨b,nm,c⟩:=q
    dsimp only at h
    cases hm : manyW s.1 (encW b nm) c (s.1 + 1,s.2) with
    | error e=>rw [hm] at h;cases h
    | ok s1=>
     rw [hm] at h
     exact next s1 _ hc (manyM_ok hm) h
theorem exprM_bad {e : Ex} {s : WS} {c : Int × Nat} {s' : WS} (h : exprW e s = .error (c,s')) : c.1 ≠ 0:=by
 rw [exprW_fold] at h
 have step : ∀ (x : Nd) (s : WS) (er : (Int × Nat) × WS),stepW x s = .error er → er.1.1 ≠ 0:=by
  intro x s er he
  by_cases h2 : s.1 = 200
  ·rw [stepW_200 x s h2] at he;cases he;intro g;cases g
  rw [stepW_eq x s h2] at he
  cases hc : chkN x with
  | error c=>
   rw [hc] at he
   cases he
   cases x with
   | w x=>
    rw [chkN,chkW] at hc
    split at hc
    ·cases hc
    split at hc
    ·split at hc
     ·cases hc;intro g;cases g
     ·cases hc
    ·cases hc;intro g;cases g
   | e x=>
    rw [chkN,chkX] at hc
    split at hc
    ·cases hc;intro g;cases g
    split at hc
    ·cases hc;intro g;cases g
    split at hc
    ·split at hc
     ·cases hc
     ·cases hc;intro g;cases g
    split at hc
    ·split at hc
     ·cases hc
     ·cases hc;intro g;cases g
    split at hc
    ·cases hc
    ·cases hc;intro g;cases g
  | ok o=>
   rw [hc] at he
   cases o with
   | none=>cases he
   | some q=>
    obtain ⟨b,nm,c⟩:=q
    dsimp only at he
    unfold manyW at he
    split at he
    ·split at he
     ·cases he
     ·cases he;intro g;cases g
    ·cases he
 have all : ∀ (l : List Nd) (s : WS) (er : (Int × Nat) × WS),foldW l s = .error er → er.1.1 ≠ 0:=by
  intro l
  induction l with
  | nil=>intro s er he;rw [foldW] at he;cases he
  | cons x r ih=>
   intro s er he
   rw [foldW] at he
   cases hs : stepW x s with
   | error e2=>rw [hs] at he;cases he;exact step x s _ hs
   | ok s1=>rw [hs] at he;exact ih s1 er he
 exact all _ _ _ h
theorem checkM_ok {e : Ex} (h : (checkX e).1 = 0) : (ndE e).length ≤ 200 ∧ ∀ x ∈ ndE e,∃ o,chkN x = .ok o:=by
 have h1 : ∃ s,foldW (ndE e) (0,[]) = .ok s:=by
  rw [← exprW_fold]
  unfold checkX at h
  cases hw : exprW e (0,[]) with
  | ok s=>exact ⟨s,rfl⟩
  | error er=>
   obtain ⟨er,s⟩:=er
   rw [hw] at h
   exact absurd h (exprM_bad hw)
 obtain ⟨s,h1⟩:=h1
 obtain ⟨h2,h3⟩:=foldM_ok _ _ _ h1 (by decide)
 exact ⟨by simpa using h2,h3⟩
theorem ndEs_mem {w : Ex} {x : Nd} : ∀ {l : List Ex},w ∈ l → x ∈ ndE w → x ∈ ndEs l
 | [],h,_=>by cases h
 | v :: r,h,hx=>by
  rw [ndEs,List.mem_append]
  rcases List.mem_cons.1 h with rfl | h
  ·exact .inl hx
  ·exact .inr (ndEs_mem h hx)
theorem kwF_ok {F : List Fn} {L : Ev} {B : List ByteArray} (w : Wd) (h : kwF F L B w = true) : wordOkF F w = true:=by
 induction w using Wd.ind with
 | h w ih=>
  rw [kwF_eq] at h
  rw [wordOkF_eq]
  by_cases hn : isNameB w.nm = true
  ·rw [hn,Bool.true_or]
  ·rw [if_neg hn,Bool.and_eq_true,kwsF_all] at h
   have hw : ∀ l : List Wd,(∀ a ∈ l,wordOkF F a = true) → wordsOkF F l = true:=by
    intro l
    induction l with
    | nil=>intro _;rfl
    | cons a r ihr=>intro hl;rw [wordsOkF,hl a (by simp),ihr fun b hb=>hl b (by simp [hb])];rfl
   rw [h.1,hw w.args fun a ha=>ih a ha (List.all_eq_true.1 h.2 a ha)]
   simp
theorem kwsF_ok {F : List Fn} {L : Ev} {B : List ByteArray} (l : List Wd) (h : kwsF F L B l = true) : wordsOkF F l = true:=by
 induction l with
 | nil=>rfl
 | cons a r ihr=>
  rw [kwsF,Bool.and_eq_true] at h
  rw [wordsOkF,kwF_ok a h.1,ihr h.2];rfl
theorem exsOk_all {F : List Fn} {P : List Pd} : ∀ l : List Ex,exsOk F P l = l.all (exOk F P)
 | []=>rfl
 | w :: r=>by rw [exsOk,exsOk_all r,List.all_cons]
theorem exK_ok {F : List Fn} {P : List Pd} {L : Ev} (e : Ex) : (∀ x ∈ ndE e,∃ o,chkN x = .ok o) → ∀ B,exK F P L e B = true → exOk F P e = true:=by
 induction e using Ex.ind with
 | h e ih=>
  intro hn B h
  obtain ⟨o,ho⟩:=hn (.e e) (by rw [ndE_eq];simp)
  rw [exK_eq,exsK_all,Bool.and_eq_true,Bool.and_eq_true] at h
  obtain ⟨⟨h1,h2⟩,h3⟩:=h
  rw [exOk_eq,exsOk_all,Bool.and_eq_true]
  refine ⟨?_,List.all_eq_true.2 fun q hq=>ih q hq (fun x hx=>hn x (by rw [ndE_eq];simp [ndEs_mem hq hx])) _ (List.all_eq_true.1 h3 q hq)⟩
  unfold exH
  rw [kwsF_ok _ h2,h1,Bool.true_and,Bool.and_true]
  apply decide_eq_true
  rw [chkN,chkX] at ho
  split at ho
  ·cases ho
  rename_i g1
  split at ho
  ·cases ho
  rename_i g2
  refine ⟨by omega,by omega,by omega,fun g=>?_⟩
  rw [g] at g2
  simp [wordsN] at g2
  omega
theorem deepF_nd (e : Ex) : deepF e ≤ (ndE e).length:=by
 induction e using Ex.ind with
 | h e ih=>
  rw [deepF_eq,ndE_eq,List.length_cons,List.length_append]
  have : ∀ l : List Ex,(∀ q ∈ l,deepF q ≤ (ndE q).length) → deepsF l ≤ (ndEs l).length:=by
   intro l
   induction l with
   | nil=>intro _;rw [deepsF];omega
   | cons a r ihr=>
    intro hl
    have h1:=hl a (by simp)
    have h2:=ihr fun b hb=>hl b (by simp [hb])
    rw [deepsF,ndEs,List.length_append]
    omega
  have:=this e.kids ih
  split <;> omega
noncomputable def evOf : List ByteArray → List Int → Ev → Ev
 | n :: r,v :: q,L=>evOf r q (putI n v L)
 | _,_,L=>L
theorem evOf_snoc {n : ByteArray} {v : Int} : ∀ {ns : List ByteArray} {vs : List Int} {L : Ev},ns.length = vs.length → evOf (ns ++ [n]) (vs ++ [v]) L = putI n v (evOf ns vs L)
 | [],[],L,_=>rfl
 | [],v :: q,L,h=>by cases h
 | n :: r,[],L,h=>by cases h
 | a :: r,b :: q,L,h=>by
  rw [List.cons_append,List.cons_append,evOf,evOf_snoc (by simpa using h),evOf]
theorem evOf_keys : ∀ (ns : List ByteArray) (vs : List Int) (L : Ev),Keys L → Keys (evOf ns vs L)
 | [],_,L,h=>by rw [evOf];exact h;simp
 | n :: r,[],L,h=>by rw [evOf];exact h;simp
 | n :: r,v :: q,L,h=>by rw [evOf];exact evOf_keys r q _ (putI_keys h)
theorem evOf_look (x : ByteArray) : ∀ (ns : List ByteArray) (vs : List Int) (L : Ev),Keys L → ns.length = vs.length → lookI x (evOf ns vs L) = match lastI x ns vs with
  | some m=>some m
  | none=>lookI x L
 | [],[],L,h,_=>rfl
 | [],v :: q,L,h,hl=>by cases hl
 | n :: r,[],L,h,hl=>by cases hl
 | n :: r,v :: q,L,h,hl=>by
  rw [evOf,evOf_look x r q _ (putI_keys h) (by simpa using hl),lastI]
  cases lastI x r q with
  | some m=>rfl
  | none=>
   dsimp only
   rw [putI_look h]
   by_cases hx : x = n
   ·rw [if_pos hx,if_pos hx.symm]
   ·rw [if_neg hx,if_neg (fun g=>hx g.symm)]
theorem keys_nil : Keys []:=by unfold Keys;simp
theorem evOf_env {ns : List ByteArray} {vs : List Int} (h : ns.length = vs.length) : envI (evOf ns vs []) = envLs ns vs:=by
 funext x
 unfold envI envLs
 rw [evOf_look x ns vs [] keys_nil h]
 cases lastI x ns vs <;> rfl
theorem kwF_list {F : List Fn} {L : Ev} {ns B : List ByteArray} (hL : ∀ x,(lookI x L).isSome = ns.any fun y=>decide (x = y)) (w : Wd) : kwF F L B w = kwF F [] (ns ++ B) w:=by
 induction w using Wd.ind with
 | h w ih=>
  rw [kwF_eq,kwF_eq,kwsF_all,kwsF_all,List.any_append,hL]
  have : w.args.all (kwF F L B) = w.args.all (kwF F [] (ns ++ B)):=by
   rw [Bool.eq_iff_iff,List.all_eq_true,List.all_eq_true]
   exact ⟨fun h x hx=>(ih x hx) ▸ h x hx,fun h x hx=>(ih x hx).symm ▸ h x hx⟩
  rw [this]
  split
  ·simp [lookI]
  ·rfl
theorem bindB_app {k : Int} {nm : ByteArray} {ns B : List ByteArray} : bindB k nm (ns ++ B) = ns ++ bindB k nm B:=by
 unfold bindB
 split
 ·rw [List.append_assoc]
 ·rfl
theorem exK_list {F : List Fn} {P : List Pd} {L : Ev} {ns : List ByteArray} (hL : ∀ x,(lookI x L).isSome = ns.any fun y=>decide (x = y)) (e : Ex) : ∀ B,exK F P L e B = exK F P [] e (ns ++ B):=by
 induction e using Ex.ind with
 | h e ih=>
  intro B
  rw [exK_eq,exK_eq,kwsF_all,kwsF_all,exsK_all,exsK_all,bindB_app]
  have h1 : e.words.all (kwF F L B) = e.words.all (kwF F [] (ns ++ B)):=by
   rw [Bool.eq_iff_iff,List.all_eq_true,List.all_eq_true]
   exact ⟨fun h x hx=>(kwF_list hL x) ▸ h x hx,fun h x hx=>(kwF_list hL x).symm ▸ h x hx⟩
  have h2 : (e.kids.all fun q=>exK F P L q (bindB e.k e.nm B)) = e.kids.all fun q=>exK F P [] q (ns ++ bindB e.k e.nm B):=by
   rw [Bool.eq_iff_iff,List.all_eq_true,List.all_eq_true]
   exact ⟨fun h x hx=>(ih x hx _) ▸ h x hx,fun h x hx=>(ih x hx _).symm ▸ h x hx⟩
  rw [h1,h2]
theorem evOf_known {ns : List ByteArray} {vs : List Int} (h : ns.length = vs.length) (x : ByteArray) : (lookI x (evOf ns vs [])).isSome = ns.any fun y=>decide (x = y):=by
 rw [evOf_look x ns vs [] keys_nil h,← lastI_some h]
 cases lastI x ns vs <;> rfl
def namF (N : Int) : List ByteArray → List Int → Nat → Int × Int
 | n :: r,v :: q,i=>if isNameB n = false then (8,(i : Int)) else if v < 0 ∨ N ≤ v then (3,(i : Int)) else namF N r q (i + 1)
 | _,_,_=>(0,0)
def hugeF (N : Int) (d : Nat) : Bool:=decide (5000 < N ^ (min d 6)) || decide (6 < d)
def valF (S : Stc) (e : Ex) (ns : List ByteArray) (vs : List Int) : Int × Int:=
 if (stcF S).1 ≠ 0 then stcF S else if (checkX e).1 ≠ 0 then checkX e else if ns.length ≠ vs.length ∨ 20 < ns.length then (9,0)
 else if (namF S.n ns vs 0).1 ≠ 0 then namF S.n ns vs 0 else if exK S.funs S.preds [] e ns = false then (6,0) else if hugeF S.n (deepF e) = true then (2,0) else (0,0)
def valB (S : Stc) (e : Ex) (ns : List ByteArray) (vs : List Int) : Bool:=if (valF S e ns vs).1 = 0 then valV S.n S.funs S.preds e (envLs ns vs) else false
theorem namF_zero {N : Int} : ∀ {ns : List ByteArray} {vs : List Int} {i : Nat},ns.length = vs.length → (namF N ns vs i).1 = 0 → ∀ v ∈ vs,0 ≤ v ∧ v < N
 | [],[],_,_,_,v,hv=>by cases hv
 | [],v :: q,_,h,_,_,_=>by cases h
 | n :: r,[],_,h,_,_,_=>by cases h
 | n :: r,v :: q,i,h,hz,w,hw=>by
  rw [namF] at hz
  split at hz
  ·exact absurd hz (fun g=>by cases g)
  split at hz
  ·exact absurd hz (fun g=>by cases g)
  rcases List.mem_cons.1 hw with rfl | hw
  ·omega
  ·exact namF_zero (by simpa using h) hz w hw
theorem namF_step {N : Int} {ns : List ByteArray} {vs : List Int} {i : Nat} (h1 : i < ns.length) (h2 : i < vs.length) : namF N (ns.drop i) (vs.drop i) i = if isNameB ns[i] = false then (8,(i : Int)) else if vs[i] < 0 ∨ N ≤ vs[i] then (3,(i : Int)) else namF N (ns.drop (i + 1)) (vs.drop (i + 1)) (i + 1):=by
 rw [List.drop_eq_getElem_cons h1,List.drop_eq_getElem_cons h2,namF]
theorem stcF_zero {S : Stc} (h : (stcF S).1 = 0) : 0 < S.n ∧ S.n ≤ 8 ∧ S.funs.length ≤ 10 ∧ S.preds.length ≤ 10 ∧ (S.funs.map Fn.name).Nodup ∧ (S.preds.map Pd.name).Nodup ∧ FunsOk S.n S.funs ∧ PredsOk S.n S.preds ∧ stcF S = (0,0):=by
 unfold stcF at h ⊢
 split at h
 ·exact absurd h (fun g=>by cases g)
 rename_i h1
 split at h
 ·rename_i h2;exact absurd h h2
 rename_i h2
 rw [if_neg h1,if_neg h2]
 have funs : ∀ (r pre : List Fn) (i : Nat),(funsF S.n pre r i).1 = 0 → (pre.map Fn.name).Nodup → ((pre ++ r).map Fn.name).Nodup ∧ ∀ f ∈ r,tabF S.n f = 0:=by
  intro r
  induction r with
  | nil=>intro pre i _ hp;rw [List.append_nil];exact ⟨hp,fun f hf=>by cases hf⟩
  | cons f r ih=>
   intro pre i hz hp
   rw [funsF] at hz
   split at hz
   ·exact absurd hz (fun g=>by cases g)
   rename_i g1
   split at hz
   ·rename_i g2;exact absurd hz g2
   rename_i g2
   have hno : (pre.any fun g=>decide (g.name = f.name)) = false:=by
    cases hb : (pre.any fun g=>decide (g.name = f.name)) with
    | true=>exact absurd (.inr hb) g1
    | false=>rfl
   obtain ⟨a1,a2⟩:=ih (pre ++ [f]) (i + 1) hz (by
    rw [List.map_append,List.nodup_append]
    refine ⟨hp,by simp,fun a ha b hb=>?_⟩
    obtain ⟨g,hg,rfl⟩:=List.mem_map.1 ha
    simp only [List.map_cons,List.map_nil,List.mem_singleton] at hb
    rw [hb]
    have:=List.any_eq_false.1 hno g hg
    simpa using this)
   refine ⟨by rw [List.append_assoc] at a1;exact a1,fun g hg=>?_⟩
   rcases List.mem_cons.1 hg with rfl | hg
   ·exact Decidable.not_not.1 g2
   ·exact a2 g hg
 have preds : ∀ (r pre : List Pd) (i : Nat),(predsF S.n pre r i).1 = 0 → (pre.map Pd.name).Nodup → ((pre ++ r).map Pd.name).Nodup ∧ (∀ f ∈ r,bitF S.n f = 0) ∧ predsF S.n pre r i = (0,0):=by
  intro r
  induction r with
  | nil=>intro pre i _ hp;rw [List.append_nil];exact ⟨hp,(fun f hf=>by cases hf),by rw [predsF]⟩
  | cons f r ih=>
   intro pre i hz hp
   rw [predsF] at hz ⊢
   split at hz
   ·exact absurd hz (fun g=>by cases g)
   rename_i g1
   split at hz
   ·rename_i g2;exact absurd hz g2
   rename_i g2
   rw [if_neg g1,if_neg g2]
   have hno : (pre.any fun g=>decide (g.name = f.name)) = false:=by
    cases hb : (pre.any fun g=>decide (g.name = f.name)) with
    | true=>exact absurd (.inr hb) g1
    | false=>rfl
   obtain ⟨a1,a2,a3⟩:=ih (pre ++ [f]) (i + 1) hz (by
    rw [List.map_append,List.nodup_append]
    refine ⟨hp,by simp,fun a ha b hb=>?_⟩
    obtain ⟨g,hg,rfl⟩:=List.mem_map.1 ha
    simp only [List.map_cons,List.map_nil,List.mem_singleton] at hb
    rw [hb]
    have:=List.any_eq_false.1 hno g hg
    simpa using this)
   refine ⟨by rw [List.append_assoc] at a1;exact a1,fun g hg=>?_,a3⟩
   rcases List.mem_cons.1 hg with rfl | hg
   ·exact Decidable.not_not.1 g2
   ·exact a2 g hg
 obtain ⟨f1,f2⟩:=funs S.funs [] 0 (Decidable.not_not.1 h2) (by simp)
 obtain ⟨p1,p2,p3⟩:=preds S.preds [] S.funs.length h (by simp)
 exact ⟨by omega,by omega,by omega,by omega,f1,p1,f2,p2,p3⟩
theorem valF_zero {S : Stc} {e : Ex} {ns : List ByteArray} {vs : List Int} (h : (valF S e ns vs).1 = 0) : (stcF S).1 = 0 ∧ (checkX e).1 = 0 ∧ ns.length = vs.length ∧ ns.length ≤ 20 ∧ (namF S.n ns vs 0).1 = 0 ∧ exK S.funs S.preds [] e ns = true ∧ hugeF S.n (deepF e) = false ∧ valF S e ns vs = (0,0):=by
 unfold valF at h ⊢
 split at h
 ·rename_i g;exact absurd h g
 rename_i h1
 split at h
 ·rename_i g;exact absurd h g
 rename_i h2
 split at h
 ·exact absurd h (fun g=>by cases g)
 rename_i h3
 split at h
 ·rename_i g;exact absurd h g
 rename_i h4
 split at h
 ·exact absurd h (fun g=>by cases g)
 rename_i h5
 split at h
 ·exact absurd h (fun g=>by cases g)
 rename_i h6
 rw [if_neg h1,if_neg h2,if_neg h3,if_neg h4,if_neg h5,if_neg h6]
 refine ⟨Decidable.not_not.1 h1,Decidable.not_not.1 h2,by omega,by omega,Decidable.not_not.1 h4,by simpa using h5,by simpa using h6,rfl⟩
end Go.Proofs.Ytlcplnafkeklaaa
namespace Go.Proofs.Ytlcplnafkeklaaa
open Go Go.Pv
def x62_L0 : XC:=.seq (.reg [⟨some 9,.binOp .lss 3 (.tmp 8) (.tmp 7) 3,none⟩]) (.seq (.cond (.tmp 9) .skip (.exit 0)) (.seq (.block 1 (.seq (.reg [⟨some 10,.move (.tmp 8),none⟩,⟨some 5,.assign (.tmp 10),none⟩]) (.seq (.reg [⟨some 11,.move (.tmp 1),none⟩,⟨some 12,.move (.tmp 0),none⟩,⟨some 13,.move (.tmp 5),none⟩,⟨some 14,.indexAddr 30 (.tmp 12) (.tmp 13),none⟩,⟨some 15,.load 9 (.tmp 14),none⟩,⟨some 16,.binOp .eql 9 (.tmp 11) (.tmp 15) 9,none⟩]) (.cond (.tmp 16) (.seq (.reg [⟨some 17,.move (.tmp 5),none⟩,⟨some 4,.assign (.tmp 17),none⟩]) .ret) .skip)))) (.reg [⟨some 18,.binOp .add 3 (.tmp 8) (.const (.int .i64 1)) 3,none⟩,⟨some 8,.move (.tmp 18),none⟩])))
def x62 : XC:=.seq (.reg [⟨some 4,.assign (.const (.int .i64 0)),none⟩]) (.seq (.seq (.reg [⟨some 6,.move (.tmp 0),none⟩,⟨some 7,.call ⟨.builtin .len,#[.tmp 6],#[30]⟩,none⟩,⟨some 8,.move (.const (.int .i64 0)),none⟩]) (.bloop 0 x62_L0)) (.seq (.reg [⟨some 4,.assign (.const (.int .i64 (-1))),none⟩]) .ret))
@[simp] theorem x62_s {C e s K} : type_of% (@X_at C e s K _ _ x62_L0.eq_1) ∧ type_of% (@X_at C e s K _ _ x62.eq_1):=⟨X_at x62_L0.eq_1,X_at x62.eq_1⟩
def an62 : Ann:=⟨[],[(0,[],[0,1,7,8],[4])],[]⟩
@[simp] theorem an62_a : an62.loopOf 0 = ([],[0,1,7,8],[4]):=rfl
theorem fi62 : FI Try.prog 62 (cxA an62) x62 [.tmp 4] Try.f62:=fiA Try.func62 mixed
theorem Index_strs (l : List ByteArray) (hl : l.length ≤ 1000000) (x : ByteArray) : CallOK Try.prog 62 [.list (l.map strRow),.str x] [] (.int .i64 (indexQ (fun y=>decide (x = y)) l)) []:=by
 refine fi62.op ?_
 (refine Sg.h ?_;try repeat' ((with_reducible first|refine brA ?_|refine brE fun _=>?_|refine spl ⟨?_,?_⟩<;>intro _)<;>((try simp -implicitDefEqProofs);(try simp -implicitDefEqProofs(disch:=first|assumption|(try simp only[lens]);omega -splitDisjunctions)))))
 refine W_of fun Q hQ=>?_
 have main : ∀ n i,i + n = l.length → (∀ j (hj : j < i) (hl : j < l.length),decide (x = l[j]) = false) → Q [(0,.list (l.map strRow)),(1,.str x),(7,.int .i64 (l.length : Int)),(8,.int .i64 (i : Int))] []:=by
  intro n
  induction n with
  | zero=>
   intro i hi hb
   have hv:=indexQ_none (p:=fun y=>decide (x = y)) (l:=l) fun j hj=>hb j (by omega) hj
   generalize indexQ (fun y=>decide (x = y)) l = v at *
   apply hQ
   subst hv
   (refine Sg.h ?_;try repeat' ((with_reducible first|refine brA ?_|refine brE fun _=>?_|refine spl ⟨?_,?_⟩<;>intro _)<;>((try simp -implicitDefEqProofs);(try simp -implicitDefEqProofs(disch:=first|assumption|(try simp only[lens]);omega -splitDisjunctions)))))
  | succ n ih=>
   intro i hi hb
   have hil : i < l.length:=by omega
   have ih:=ih (i + 1) (by omega)
   have hat:=fun hp=>indexQ_at (p:=fun y=>decide (x = y)) hil hp fun j hj=>hb j hj (by omega)
   generalize indexQ (fun y=>decide (x = y)) l = v at *
   by_cases hp : x = l[i]
   ·have hv := hat (decide_eq_true hp)
    apply hQ
    clear hQ
    subst hv
    generalize hy : l[i] = y at *
    (refine Sg.h ?_;try repeat' ((with_reducible first|refine brA ?_|refine brE fun _=>?_|refine spl ⟨?_,?_⟩<;>intro _)<;>((try simp -implicitDefEqProofs [hil,hy,hp]);(try simp -implicitDefEqProofs(disch:=first|assumption|(try simp only[lens]);omega -splitDisjunctions) [hil,hy,hp]))))
   ·have ih := ih fun j hj hl => by
     rcases Nat.lt_or_ge j i with hji | hji
     ·exact hb j hji hl
     ·have : j = i := by omega
      subst this;exact decide_eq_false hp
    clear hat
    generalize hy : l[i] = y at *
    apply hQ
    clear hQ
    (refine Sg.h ?_;try repeat' ((with_reducible first|refine brA ?_|refine brE fun _=>?_|refine spl ⟨?_,?_⟩<;>intro _)<;>((try simp -implicitDefEqProofs [hil,hy,hp]);(try simp -implicitDefEqProofs(disch:=first|assumption|(try simp only[lens]);omega -splitDisjunctions) [hil,hy,hp]))))
    all_goals first|exact ih|(refine at2 ih ?_ ?_<;>simp;done)|(exfalso;first|omega|(simp_all;done)|(simp_all;omega))
 all_goals first|exact main _ 0 (Nat.zero_add _) (fun j hj=>by omega)|(refine at2 main _ 0 (Nat.zero_add _) (fun j hj=>by omega) ?_ ?_<;>simp;done)|(exfalso;first|omega|(simp_all;done)|(simp_all;omega))
def x50 : XC:=.seq (.reg [⟨some 4,.assign (.const (.bool false)),none⟩]) (.seq (.reg [⟨some 5,.move (.tmp 0),none⟩,⟨some 6,.move (.tmp 1),none⟩,⟨some 7,.call ⟨.value (.func 62),#[.tmp 5,.tmp 6],#[30,9]⟩,none⟩,⟨some 8,.binOp .geq 3 (.tmp 7) (.const (.int .i64 0)) 3,none⟩,⟨some 4,.assign (.tmp 8),none⟩]) .ret)
@[simp] theorem x50_s {C e s K} : type_of% (@X_at C e s K _ _ x50.eq_1):=X_at x50.eq_1
def an50 : Ann:=⟨[],[],[]⟩
theorem fi50 : FI Try.prog 50 (cxA an50) x50 [.tmp 4] Try.f50:=fiA Try.func50 mixed
theorem Contains_strs (l : List ByteArray) (hl : l.length ≤ 1000000) (x : ByteArray) : CallOK Try.prog 50 [.list (l.map strRow),.str x] [] (.bool (l.any fun y=>decide (x = y))) []:=by
 have hc:=Index_strs l hl x
 have hany : (0 ≤ indexQ (fun y=>decide (x = y)) l) ↔ l.any (fun y=>decide (x = y)) = true:=indexQ_any
 refine fi50.op ?_
 generalize indexQ (fun y=>decide (x = y)) l = q at *
 cases hb : l.any fun y=>decide (x = y) with
 | true=>
  have h0 : 0 ≤ q:=hany.2 hb
  (refine Sg.h ?_;try repeat' ((first|(with_reducible first|refine brA ?_|refine brE fun _=>?_|refine spl ⟨?_,?_⟩<;>intro _)|refine clo hc ?_)<;>((try simp -implicitDefEqProofs [h0]);(try simp -implicitDefEqProofs(disch:=first|assumption|(try simp only[lens]);omega -splitDisjunctions) [h0]))))
 | false=>
  have h0 : ¬ 0 ≤ q:=fun g=>by rw [hany.1 g] at hb;cases hb
  (refine Sg.h ?_;try repeat' ((first|(with_reducible first|refine brA ?_|refine brE fun _=>?_|refine spl ⟨?_,?_⟩<;>intro _)|refine clo hc ?_)<;>((try simp -implicitDefEqProofs [h0]);(try simp -implicitDefEqProofs(disch:=first|assumption|(try simp only[lens]);omega -splitDisjunctions) [h0]))))
def x52 : XC:=.seq (.reg [⟨some 2,.assign (.const (.slice none 0 0)),none⟩]) (.seq (.reg [⟨some 3,.move (.tmp 0),none⟩,⟨some 4,.move (.tmp 0),none⟩,⟨some 5,.call ⟨.builtin .len,#[.tmp 4],#[30]⟩,none⟩,⟨some 6,.move (.tmp 0),none⟩,⟨some 7,.call ⟨.builtin .len,#[.tmp 6],#[30]⟩,none⟩,⟨some 8,.slice 30 (.tmp 3) none (some (.tmp 5)) (some (.tmp 7)),none⟩,⟨some 2,.assign (.tmp 8),none⟩]) .ret)
@[simp] theorem x52_s {C e s K} : type_of% (@X_at C e s K _ _ x52.eq_1):=X_at x52.eq_1
def an52 : Ann:=⟨[],[],[]⟩
theorem fi52 : FI Try.prog 52 (cxA an52) x52 [.tmp 2] Try.f52:=fiA Try.func52 mixed
theorem Clip_strs (l : List ByteArray) (hl : l.length ≤ 1000000) : CallOK Try.prog 52 [.list (l.map strRow)] [] (.clip 1 (l.map strRow)) []:=by
 refine fi52.op ?_
 (refine Sg.h ?_;try repeat' ((with_reducible first|refine brA ?_|refine brE fun _=>?_|refine spl ⟨?_,?_⟩<;>intro _)<;>((try simp -implicitDefEqProofs);(try simp -implicitDefEqProofs(disch:=first|assumption|(try simp only[lens]);omega -splitDisjunctions)))))
def stK (N : Int) (F : List Fn) (P : List Pd) (L : Ev) (b : Bool) : Store:=[.rows 1 [[.imap (mapI L)]],.rows 1 [[.bool b]],.rows 1 [[.iptr [.int .i64 N,.imap (funM F),.imap (predM P)]]],.rows 1 [[.fn (.func 49) [] [.ptr 0 0 0,.ptr 1 0 0,.ptr 2 0 0,.ptr 3 0 0]]]]
attribute [simp] stK
@[simp] theorem rg4 : List.range 4 = [0,1,2,3]:=rfl
section
variable {C : WC} {f : Operand} {args : Array Operand} {d : Option Tmp} {fid : FuncId} {vs : List PV} {e : AE} {rest : Store} {N : Int} {F : List Fn} {P : List Pd} {L : Ev} {b b' : Bool} {K : KS} {ops : List LOp}
theorem liveK : liveS [0,1,2,3] (stK N F P L b ++ rest) [0,1,2,3] = stK N F P L b:=by simp [liveS]
theorem cl_kn [EnT C.P fid] {v : PV} (hc : CallOK C.P fid vs (stK N F P L b) v (stK N F P L b')) (hk : O C .pl ops (updA e d (upN [0,1,2,3] 4 v)) (backS [0,1,2,3] (stK N F P L b ++ rest) (stK N F P L b')) K) (hv : vs.map (renN [0,1,2,3] 4) = vs:=by simp) : CL C f args d (some (fid,vs)) ops e (stK N F P L b ++ rest) K:=by
 refine CL.sub [0,1,2,3] (s2:=stK N F P L b') (v:=v) (by rw [hv,liveK];exact hc) ?_
 exact hk
end
def x49_L0 : XC:=.seq (.reg [⟨some 60,.binOp .lss 3 (.tmp 59) (.tmp 58) 3,none⟩]) (.seq (.cond (.tmp 60) .skip (.exit 0)) (.seq (.block 1 (.seq (.reg [⟨some 61,.indexAddr 26 (.tmp 57) (.tmp 59),none⟩,⟨some 62,.load 68 (.tmp 61),none⟩,⟨some 13,.alloc 68,none⟩,⟨none,.store 68 (.tmp 13) (.tmp 62),none⟩]) (.reg [⟨some 63,.load 86 (.tmp 5),none⟩,⟨some 64,.load 68 (.tmp 13),none⟩,⟨some 65,.move (.tmp 1),none⟩,⟨some 66,.call ⟨.value (.tmp 63),#[.tmp 64,.tmp 65],#[68,30]⟩,none⟩]))) (.reg [⟨some 67,.binOp .add 3 (.tmp 59) (.const (.int .i64 1)) 3,none⟩,⟨some 59,.move (.tmp 67),none⟩])))
def x49 : XC:=.seq (.reg [⟨some 6,.box 68 (.tmp 0),none⟩]) (.seq (.seq (.reg [⟨some 14,.fieldAddr 68 (.tmp 6) 0,none⟩,⟨some 15,.load 9 (.tmp 14),none⟩,⟨some 16,.call ⟨.value (.func 30),#[.tmp 15],#[9]⟩,none⟩]) (.cond (.tmp 16) (.seq (.reg [⟨some 18,.load 63 (.tmp 2),none⟩,⟨some 19,.fieldAddr 68 (.tmp 6) 0,none⟩,⟨some 20,.load 9 (.tmp 19),none⟩,⟨some 21,.lookup 63 (.tmp 18) (.tmp 20) true,none⟩,⟨some 17,.move (.tmp 21),none⟩,⟨some 22,.extract (.tmp 17) 0,none⟩,⟨some 23,.extract (.tmp 17) 1,none⟩,⟨some 8,.assign (.tmp 22),none⟩,⟨some 9,.assign (.tmp 23),none⟩]) (.seq (.reg [⟨some 24,.load 4 (.tmp 3),none⟩,⟨some 25,.move (.tmp 24),none⟩,⟨some 26,.move (.tmp 9),some (some 25,true)⟩,⟨some 27,.move (.tmp 26),some (some 25,true)⟩,⟨some 28,.move (.tmp 1),some (some 27,false)⟩,⟨some 29,.fieldAddr 68 (.tmp 6) 0,some (some 27,false)⟩,⟨some 30,.load 9 (.tmp 29),some (some 27,false)⟩,⟨some 31,.call ⟨.value (.func 50),#[.tmp 28,.tmp 30],#[30,9]⟩,some (some 27,false)⟩,⟨some 32,.pick (.tmp 27) (.const (.bool true)) (.tmp 31),some (some 25,true)⟩,⟨some 33,.pick (.tmp 25) (.tmp 32) (.const (.bool false)),none⟩,⟨none,.store 4 (.tmp 3) (.tmp 33),none⟩]) .ret)) .skip)) (.seq (.drawn 4 [⟨some 35,.load 64 (.tmp 4),none⟩,⟨some 36,.nilCheck (.tmp 35),none⟩,⟨some 37,.fieldAddr 85 (.tmp 36) 1,none⟩,⟨some 38,.load 82 (.tmp 37),none⟩,⟨some 39,.fieldAddr 68 (.tmp 6) 0,none⟩,⟨some 40,.load 9 (.tmp 39),none⟩,⟨some 41,.lookup 82 (.tmp 38) (.tmp 40) true,none⟩,⟨some 34,.move (.tmp 41),none⟩,⟨some 42,.extract (.tmp 34) 0,none⟩,⟨some 43,.extract (.tmp 34) 1,none⟩,⟨some 10,.alloc 52,none⟩,⟨none,.store 52 (.tmp 10) (.tmp 42),none⟩,⟨some 11,.assign (.tmp 43),none⟩]) (.seq (.reg [⟨some 44,.load 4 (.tmp 3),none⟩,⟨some 45,.move (.tmp 44),none⟩,⟨some 46,.move (.tmp 11),some (some 45,true)⟩,⟨some 47,.pick (.tmp 45) (.tmp 46) (.const (.bool false)),none⟩,⟨some 48,.move (.tmp 47),none⟩,⟨some 49,.fieldAddr 52 (.tmp 10) 1,some (some 48,true)⟩,⟨some 50,.load 3 (.tmp 49),some (some 48,true)⟩,⟨some 51,.fieldAddr 68 (.tmp 6) 1,some (some 48,true)⟩,⟨some 52,.load 26 (.tmp 51),some (some 48,true)⟩,⟨some 53,.call ⟨.builtin .len,#[.tmp 52],#[26]⟩,some (some 48,true)⟩,⟨some 54,.binOp .eql 3 (.tmp 50) (.tmp 53) 3,some (some 48,true)⟩,⟨some 55,.pick (.tmp 48) (.tmp 54) (.const (.bool false)),none⟩,⟨none,.store 4 (.tmp 3) (.tmp 55),none⟩]) (.seq (.reg [⟨some 56,.fieldAddr 68 (.tmp 6) 1,none⟩,⟨some 57,.load 26 (.tmp 56),none⟩,⟨some 58,.call ⟨.builtin .len,#[.tmp 57],#[26]⟩,none⟩,⟨some 59,.move (.const (.int .i64 0)),none⟩]) (.bloop 0 x49_L0)))))
@[simp] theorem x49_s {C e s K} : type_of% (@X_at C e s K _ _ x49_L0.eq_1) ∧ type_of% (@X_at C e s K _ _ x49.eq_1):=⟨X_at x49_L0.eq_1,X_at x49.eq_1⟩
def an49 : Ann:=⟨[(4,.mix3 11 9)],[(0,[],[1,5,57,58,59],[])],[]⟩
@[simp] theorem an49_a : an49.clsOf 4 = .mix3 11 9 ∧ an49.frzOf 4 = [] ∧ an49.loopOf 0 = ([],[1,5,57,58,59],[]):=⟨rfl,rfl,rfl⟩
theorem fi49 : FI Try.prog 49 (cxA an49) x49 [] Try.f49:=fiA Try.func49 mixed
theorem known1_world (N : Int) (F : List Fn) (P : List Pd) (L : Ev) (B : List ByteArray) (hB : B.length ≤ 1000000) (w : Wd) : ∀ b : Bool,CallOK Try.prog 49 [.agg (wrd w),.list (B.map strRow),.ptr 0 0 0,.ptr 1 0 0,.ptr 2 0 0,.ptr 3 0 0] (stK N F P L b) (.tuple []) (stK N F P L (b && kwF F L B w)):=by
 induction w using Wd.ind with
 | h w ih=>
  intro b
  have hnm:=isName_formula w.nm []
  have hco:=Contains_strs B hB w.nm
  rw [kwF_eq]
  cases hn : isNameB w.nm with
  | true=>
   rw [hn] at hnm
   rw [if_pos rfl]
   generalize (B.any fun y=>decide (w.nm = y)) = c at *
   obtain ⟨f1,f2⟩:=findP_int w.nm L 0
   refine fi49.og ?_
   cases hl : lookI w.nm L with
   | none=>
    have f1:=f1 hl
    cases b with
    | true=>(refine Sg.h ?_;try repeat' ((first|(with_reducible first|refine brA ?_|refine brE fun _=>?_|refine spl ⟨?_,?_⟩<;>intro _)|refine clo hnm ?_|refine clo hco ?_)<;>((try simp -implicitDefEqProofs [f1]);(try simp -implicitDefEqProofs(disch:=first|assumption|(try simp only[lens]);omega -splitDisjunctions) [f1]))))
    | false=>(refine Sg.h ?_;try repeat' ((first|(with_reducible first|refine brA ?_|refine brE fun _=>?_|refine spl ⟨?_,?_⟩<;>intro _)|refine clo hnm ?_|refine clo hco ?_)<;>((try simp -implicitDefEqProofs [f1]);(try simp -implicitDefEqProofs(disch:=first|assumption|(try simp only[lens]);omega -splitDisjunctions) [f1]))))
   | some m=>
    obtain ⟨j,f3,f4⟩:=f2 m hl
    cases b with
    | true=>(refine Sg.h ?_;try repeat' ((first|(with_reducible first|refine brA ?_|refine brE fun _=>?_|refine spl ⟨?_,?_⟩<;>intro _)|refine clo hnm ?_|refine clo hco ?_)<;>((try simp -implicitDefEqProofs [f3]);(try simp -implicitDefEqProofs(disch:=first|assumption|(try simp only[lens]);omega -splitDisjunctions) [f3]))))
    | false=>(refine Sg.h ?_;try repeat' ((first|(with_reducible first|refine brA ?_|refine brE fun _=>?_|refine spl ⟨?_,?_⟩<;>intro _)|refine clo hnm ?_|refine clo hco ?_)<;>((try simp -implicitDefEqProofs [f3]);(try simp -implicitDefEqProofs(disch:=first|assumption|(try simp only[lens]);omega -splitDisjunctions) [f3]))))
  | false=>
   rw [hn] at hnm
   rw [if_neg (by simp)]
   -- the words inside
   have key : ∀ b1 R,(b1 && kwsF F L B w.args) = R → w.args.length ≤ maxLen → W (cxA an49 Try.prog 4) 0 x49_L0 (KS.fin [] (gcFin 4 (PV.tuple []) (stK N F P L R))) [(1,.list (B.map strRow)),(5,.ptr 3 0 0),(57,.list (w.args.map wrd)),(58,.int .i64 (w.args.length : Int)),(59,.int .i64 0)] (stK N F P L b1):=by
    intro b1 R hR hlen
    have hlen2 : w.args.length ≤ 9223372036854775807:=hlen
    refine W_of fun Q hQ=>?_
    have main : ∀ n i b2,i + n = w.args.length → (b2 && kwsF F L B (w.args.drop i)) = R → Q [(1,.list (B.map strRow)),(5,.ptr 3 0 0),(57,.list (w.args.map wrd)),(58,.int .i64 (w.args.length : Int)),(59,.int .i64 (i : Int))] (stK N F P L b2):=by
     intro n
     induction n with
     | zero=>
      intro i b2 hi hR
      rw [List.drop_of_length_le (by omega),kwsF,Bool.and_true] at hR
      subst hR
      obtain rfl : i = w.args.length:=by omega
      apply hQ
      clear hQ
      (refine Sg.h ?_;try repeat' ((with_reducible first|refine brA ?_|refine brE fun _=>?_|refine spl ⟨?_,?_⟩<;>intro _)<;>((try simp -implicitDefEqProofs);(try simp -implicitDefEqProofs(disch:=first|assumption|(try simp only[lens]);omega -splitDisjunctions)))))
     | succ n ihn=>
      intro i b2 hi hR
      have hil : i < w.args.length:=by omega
      rw [List.drop_eq_getElem_cons hil,kwsF,← Bool.and_assoc] at hR
      have hc:=ih _ (List.getElem_mem hil) b2
      have ihn:=ihn (i + 1) _ (by omega) hR
      generalize hx : w.args[i] = x at *
      generalize (b2 && kwF F L B x) = b3 at *
      have hi' : (i : Int) < (w.args.length : Int):=by omega
      apply hQ
      clear hQ
      (refine Sg.h ?_;try repeat' ((with_reducible first|refine brA ?_|refine brE fun _=>?_|refine spl ⟨?_,?_⟩<;>intro _)<;>((try simp -implicitDefEqProofs [hi',hil,hx]);(try simp -implicitDefEqProofs(disch:=first|assumption|(try simp only[lens]);omega -splitDisjunctions) [hi',hil,hx]))))
      refine cl_kn (rest:=[_]) hc ?_
      (refine Sg.h ?_;try repeat' ((with_reducible first|refine brA ?_|refine brE fun _=>?_|refine spl ⟨?_,?_⟩<;>intro _)<;>((try simp -implicitDefEqProofs);(try simp -implicitDefEqProofs(disch:=first|assumption|(try simp only[lens]);omega -splitDisjunctions)))))
      all_goals first|exact ihn|(refine at2 ihn ?_ ?_<;>simp;done)|(exfalso;first|omega|(simp_all;done)|(simp_all;omega))
    all_goals first|exact main w.args.length 0 b1 (Nat.zero_add _) hR|(refine at2 main w.args.length 0 b1 (Nat.zero_add _) hR ?_ ?_<;>simp;done)|(exfalso;first|omega|(simp_all;done)|(simp_all;omega))
   obtain ⟨f1,f2⟩:=find_funM w.nm F 0
   obtain ⟨c,hc⟩ : ∃ c,(funAt w.nm F).any (fun f=>decide (f.ar = (w.args.length : Int))) = c:=⟨_,rfl⟩
   rw [hc]
   refine fi49.og ?_
   cases hl : funAt w.nm F with
   | none=>
    have f1:=f1 hl
    rw [hl] at hc
    obtain rfl : c = false:=by rw [← hc];rfl
    cases b with
    | true=>
     (refine Sg.h ?_;try repeat' ((first|(with_reducible first|refine brA ?_|refine brE fun _=>?_|refine spl ⟨?_,?_⟩<;>intro _)|refine clo hnm ?_)<;>((try simp -implicitDefEqProofs [f1]);(try simp -implicitDefEqProofs(disch:=first|assumption|(try simp only[lens]);omega -splitDisjunctions) [f1]))))
     rw [LO_some]
     refine ⟨fun hlen=>?_,fun hlen=>?_⟩
     all_goals (refine Sg.h ?_;try repeat' ((with_reducible first|refine brA ?_|refine brE fun _=>?_|refine spl ⟨?_,?_⟩<;>intro _)<;>((try simp -implicitDefEqProofs);(try simp -implicitDefEqProofs(disch:=first|assumption|(try simp only[lens]);omega -splitDisjunctions)))))
     all_goals exact key _ _ (by simp) hlen
    | false=>
     (refine Sg.h ?_;try repeat' ((first|(with_reducible first|refine brA ?_|refine brE fun _=>?_|refine spl ⟨?_,?_⟩<;>intro _)|refine clo hnm ?_)<;>((try simp -implicitDefEqProofs [f1]);(try simp -implicitDefEqProofs(disch:=first|assumption|(try simp only[lens]);omega -splitDisjunctions) [f1]))))
     rw [LO_some]
     refine ⟨fun hlen=>?_,fun hlen=>?_⟩
     all_goals (refine Sg.h ?_;try repeat' ((with_reducible first|refine brA ?_|refine brE fun _=>?_|refine spl ⟨?_,?_⟩<;>intro _)<;>((try simp -implicitDefEqProofs);(try simp -implicitDefEqProofs(disch:=first|assumption|(try simp only[lens]);omega -splitDisjunctions)))))
     all_goals exact key _ _ (by simp) hlen
   | some m=>
    obtain ⟨j,f3,f4⟩:=f2 m hl
    rw [hl] at hc
    have hc : decide (m.ar = (w.args.length : Int)) = c:=by rw [← hc];rfl
    cases b with
    | true=>
     by_cases har : m.ar = (w.args.length : Int)
     ·obtain rfl : c = true := by rw [← hc]; exact decide_eq_true har
      (refine Sg.h ?_;try repeat' ((first|(with_reducible first|refine brA ?_|refine brE fun _=>?_|refine spl ⟨?_,?_⟩<;>intro _)|refine clo hnm ?_)<;>((try simp -implicitDefEqProofs [f3]);(try simp -implicitDefEqProofs(disch:=first|assumption|(try simp only[lens]);omega -splitDisjunctions) [f3]))))
      rw [LO_some]
      refine ⟨fun hlen=>?_,fun hlen=>?_⟩
      all_goals (refine Sg.h ?_;try repeat' ((with_reducible first|refine brA ?_|refine brE fun _=>?_|refine spl ⟨?_,?_⟩<;>intro _)<;>((try simp -implicitDefEqProofs [har]);(try simp -implicitDefEqProofs(disch:=first|assumption|(try simp only[lens]);omega -splitDisjunctions) [har]))))
      all_goals exact key _ _ (by simp) hlen
     ·obtain rfl : c = false := by rw [← hc]; exact decide_eq_false har
      (refine Sg.h ?_;try repeat' ((first|(with_reducible first|refine brA ?_|refine brE fun _=>?_|refine spl ⟨?_,?_⟩<;>intro _)|refine clo hnm ?_)<;>((try simp -implicitDefEqProofs [f3]);(try simp -implicitDefEqProofs(disch:=first|assumption|(try simp only[lens]);omega -splitDisjunctions) [f3]))))
      rw [LO_some]
      refine ⟨fun hlen=>?_,fun hlen=>?_⟩
      all_goals (refine Sg.h ?_;try repeat' ((with_reducible first|refine brA ?_|refine brE fun _=>?_|refine spl ⟨?_,?_⟩<;>intro _)<;>((try simp -implicitDefEqProofs [har]);(try simp -implicitDefEqProofs(disch:=first|assumption|(try simp only[lens]);omega -splitDisjunctions) [har]))))
      all_goals exact key _ _ (by simp) hlen
    | false=>
     (refine Sg.h ?_;try repeat' ((first|(with_reducible first|refine brA ?_|refine brE fun _=>?_|refine spl ⟨?_,?_⟩<;>intro _)|refine clo hnm ?_)<;>((try simp -implicitDefEqProofs [f3]);(try simp -implicitDefEqProofs(disch:=first|assumption|(try simp only[lens]);omega -splitDisjunctions) [f3]))))
     rw [LO_some]
     refine ⟨fun hlen=>?_,fun hlen=>?_⟩
     all_goals (refine Sg.h ?_;try repeat' ((with_reducible first|refine brA ?_|refine brE fun _=>?_|refine spl ⟨?_,?_⟩<;>intro _)<;>((try simp -implicitDefEqProofs);(try simp -implicitDefEqProofs(disch:=first|assumption|(try simp only[lens]);omega -splitDisjunctions)))))
     all_goals exact key _ _ (by simp) hlen
end Go.Proofs.Ytlcplnafkeklaaa
