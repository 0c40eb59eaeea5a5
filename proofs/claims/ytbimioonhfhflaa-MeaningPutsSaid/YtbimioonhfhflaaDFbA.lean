import Derived.Test.YtbimioonhfhflaaDTy
import Derived.Laws.RangeString
set_option linter.unusedVariables false
set_option linter.unusedSimpArgs false
set_option maxRecDepth 100000
set_option maxHeartbeats 4000000
namespace Go.Proofs.Ytbimioonhfhflaa
open Go Go.Pv
def kidsN (n : Int) : Int:=if n = 1 ∨ n = 2 ∨ n = 3 then 0 else if n = 4 ∨ n = 8 ∨ n = 9 then 1 else if n = 5 ∨ n = 6 ∨ n = 7 then 2 else -1
def letterB (b : UInt8) : Bool:=decide (97 ≤ b.toNat ∧ b.toNat ≤ 122)
def isNameB (s : ByteArray) : Bool:=decide (1 ≤ s.size ∧ s.size ≤ 8) && s.data.toList.all letterB
theorem decode_high (s : ByteArray) (i : Nat) (h : i < s.size) (hb : 128 ≤ s[i].toNat) : 128 ≤ (Utf8.decode s i).1:=by
 have hg : (s.get! (i + 0)).toNat = s[i].toNat:=by
  rw [Nat.add_zero]
  show (s.data[i]!).toNat = _
  rw [getElem!_pos s.data i h];rfl
 unfold Utf8.decode
 simp only [hg,Utf8.runeError]
 rw [if_neg (by omega)]
 split
 ·split
  ·assumption
  ·decide
 ·split
  ·split
   ·rename_i h1;simp only [Bool.and_eq_true,decide_eq_true_eq] at h1;omega
   ·decide
  ·split
   ·split
    ·rename_i h1;simp only [Bool.and_eq_true,decide_eq_true_eq] at h1;omega
    ·decide
   ·decide
theorem decode_letter (s : ByteArray) (i : Nat) (h : i < s.size) : (letterB s[i] = true → Utf8.decode s i = (s[i].toNat,1)) ∧ (letterB s[i] = false → (Utf8.decode s i).1 < 97 ∨ 122 < (Utf8.decode s i).1):=by
 refine ⟨fun hl=>?_,fun hl=>?_⟩
 ·simp only [letterB,decide_eq_true_eq] at hl
  exact decode_ascii s i h (by omega)
 ·simp only [letterB,decide_eq_false_iff_not] at hl
  by_cases hb : s[i].toNat < 128
  ·rw [decode_ascii s i h hb];simp only;omega
  ·have:=decode_high s i h (by omega);omega
theorem all_letter (s : ByteArray) : s.data.toList.all letterB = true ↔ ∀ i (h : i < s.size),letterB s[i] = true:=by
 rw [List.all_eq_true]
 constructor
 ·intro h i hi;exact h _ (by simp [ByteArray.getElem_eq_getElem_data])
 ·intro h b hb
  obtain ⟨i,hi,rfl⟩:=List.mem_iff_getElem.1 hb
  exact h i (by simpa using hi)
theorem letter_of_decode (t : ByteArray) (i : Nat) (hi : i < t.size) (h1 : 97 ≤ ((Utf8.decode t i).1 : Int)) (h2 : ((Utf8.decode t i).1 : Int) ≤ 122) : letterB t[i] = true:=by
 cases hb : letterB t[i] with
 | true=>rfl
 | false=>have:=(decode_letter t i hi).2 hb;omega
theorem no_name (t : ByteArray) (i : Nat) (hi : i < t.size) (h : ((Utf8.decode t i).1 : Int) < 97 ∨ 122 < ((Utf8.decode t i).1 : Int)) : isNameB t = false:=by
 have h1 : letterB t[i] = false:=by
  cases hb : letterB t[i] with
  | false=>rfl
  | true=>
   have:=(decode_letter t i hi).1 hb
   simp only [letterB,decide_eq_true_eq] at hb
   rw [this] at h;simp only at h;omega
 have h2 : ¬ t.data.toList.all letterB = true:=by
  rw [all_letter];intro h3;rw [h3 i hi] at h1;cases h1
 simp [isNameB,h2]
theorem isName_formula (t : ByteArray) (s : Store) : CallOK Try.prog 24 [.str t] s (.bool (isNameB t)) s:=by
 have _hty:=ty21
 refine CallOK.frame ?_ ?_
 ·refine callOK_of Try.func24 rfl rfl Try.ntmps24 (by simp) ?_
  rw [Try.results24]
  dsimp only [light,regL,dsts,lopsL,lop,nth]
  (have F_:=True.intro);repeat' (first | (with_reducible refine stp ?_) | (with_reducible refine hq _ _ ?_;clear hq q) | (with_reducible refine hk _ _ ?_;clear hk k) | (with_reducible refine EvL.regA (fun k hk=>?_)) | ((with_reducible apply WOps.call);(· fail)) | (with_reducible refine WOps.auto F_ (fun q hq=>?_)) | ((with_reducible refine EvL.condA ?_ ?_);all_goals (intro h <;> (try simp only [hna,hnb,hnc,ne_eq,reduceCtorEq,Int.reduceEq,gt_iff_lt,ge_iff_le] at h) <;> (try (exfalso;omega;done)))) | (with_reducible refine EvL.drawnA (fun k hk=>?_)) | (with_reducible refine EvL.mixA (fun k hk=>?_)) | (with_reducible refine EvL.mix2A (fun k hk=>?_)) | (with_reducible refine WMix.bothA F_ ?_ ?_) | (with_reducible refine WOps.takeA ?_) | (with_reducible refine WOps.passA ?_) | ((with_reducible refine WOps.splitA ?_ ?_);all_goals (intro h <;> simp only [h] <;> (try simp only [hna,hnb,hnc,ne_eq,reduceCtorEq,Int.reduceEq,gt_iff_lt,ge_iff_le] at h) <;> (try (exfalso;omega;done)))) | (with_reducible refine WMix.takeA ?_) | (with_reducible refine WMix.passA ?_) | (with_reducible refine WMix.consA F_ ?_) | (with_reducible refine WMix.makeA F_ ?_) | ((with_reducible refine And.intro ?_ ?_);(· omega)) | ((with_reducible refine And.intro (fun h=>?_) (fun h=>?_)) <;> (try simp only [Decidable.not_not] at h) <;> (try simp only [h])) | (with_reducible intro hl))
  all_goals first | ((refine finA ?_;try exact trivial);simp [isNameB];omega;done) | skip
  ·refine EvL.loop (X := Nat) (fun i => [(0,.str t),(14,.ptr 0 0 0)]) (fun i => [.iter t i]) (fun i => i ≤ t.size ∧ ∀ j (h : j < t.size),j < i → letterB t[j] = true) (fun i => t.size - i) 0 ⟨by omega,fun j _ h => by omega⟩
    (View.of [0] _ (by simp) (by decide) (by (refine vw ?_;try exact trivial)) (by (refine vw ?_;try exact trivial))) (fun i hi=>?_)
   (have F_:=True.intro);repeat' (first | (with_reducible refine stp ?_) | (with_reducible refine hq _ _ ?_;clear hq q) | (with_reducible refine hk _ _ ?_;clear hk k) | (with_reducible refine EvL.regA (fun k hk=>?_)) | ((with_reducible apply WOps.call);(· fail)) | (with_reducible refine WOps.auto F_ (fun q hq=>?_)) | ((with_reducible refine EvL.condA ?_ ?_);all_goals (intro h <;> (try simp only [hna,hnb,hnc,ne_eq,reduceCtorEq,Int.reduceEq,gt_iff_lt,ge_iff_le] at h) <;> (try (exfalso;omega;done)))) | (with_reducible refine EvL.drawnA (fun k hk=>?_)) | (with_reducible refine EvL.mixA (fun k hk=>?_)) | (with_reducible refine EvL.mix2A (fun k hk=>?_)) | (with_reducible refine WMix.bothA F_ ?_ ?_) | (with_reducible refine WOps.takeA ?_) | (with_reducible refine WOps.passA ?_) | ((with_reducible refine WOps.splitA ?_ ?_);all_goals (intro h <;> simp only [h] <;> (try simp only [hna,hnb,hnc,ne_eq,reduceCtorEq,Int.reduceEq,gt_iff_lt,ge_iff_le] at h) <;> (try (exfalso;omega;done)))) | (with_reducible refine WMix.takeA ?_) | (with_reducible refine WMix.passA ?_) | (with_reducible refine WMix.consA F_ ?_) | (with_reducible refine WMix.makeA F_ ?_) | ((with_reducible refine And.intro ?_ ?_);(· omega)) | ((with_reducible refine And.intro (fun h=>?_) (fun h=>?_)) <;> (try simp only [Decidable.not_not] at h) <;> (try simp only [h])) | (with_reducible intro hl))
   all_goals first | ((refine finA ?_;try exact trivial);rw [no_name t i ‹_› (by omega)];done) | skip
   ·have h1 : letterB t[i] = true := letter_of_decode t i ‹_› (by omega) (by omega)
    have h2:=(decode_letter t i ‹_›).1 h1
    rw [h2]
    refine ⟨i + 1,⟨by omega,fun j hj hji=>?_⟩,by omega,View.of [0] _ (by simp) (by decide) (by (refine vw ?_;try exact trivial)) (by (refine vw ?_;try exact trivial))⟩
    by_cases e : j = i
    ·subst e;exact h1
    ·exact hi.2 j hj (by omega)
   ·(refine finA ?_; try exact trivial)
    have h2 : t.data.toList.all letterB = true:=by
     rw [all_letter];intro j hj;exact hi.2 j hj (by omega)
    simp [isNameB,h2];omega
 ·simp [flat_str,Flat.closed]
end Go.Proofs.Ytbimioonhfhflaa
namespace Go.Proofs.Ytbimioonhfhflaa
open Go Go.Pv
mutual
def varsW : Wd → List ByteArray
 | .mk nm l=>if isNameB nm = true then [nm] else varsWs l
def varsWs : List Wd → List ByteArray
 | []=>[]
 | w :: r=>varsW w ++ varsWs r
end
theorem varsW_eq (w : Wd) : varsW w = if isNameB w.nm = true then [w.nm] else varsWs w.args:=by cases w with | mk a l=>rw [varsW];rfl
theorem varsWs_mem {y : ByteArray} : ∀ {l : List Wd},y ∈ varsWs l ↔ ∃ w ∈ l,y ∈ varsW w
 | []=>by rw [varsWs];simp
 | w :: r=>by rw [varsWs,List.mem_append,varsWs_mem (l:=r)];simp
abbrev Mw:=List (ByteArray × Wd)
def lookW (x : ByteArray) : Mw → Option Wd
 | []=>none
 | p :: r=>if x = p.1 then some p.2 else lookW x r
mutual
def putW (L : Mw) : Wd → Wd
 | .mk nm l=>match lookW nm L with
  | some w=>w
  | none=>.mk nm (putWs L l)
def putWs (L : Mw) : List Wd → List Wd
 | []=>[]
 | w :: r=>putW L w :: putWs L r
end
theorem putWs_map (L : Mw) : ∀ l : List Wd,putWs L l = l.map (putW L)
 | []=>rfl
 | w :: r=>by rw [putWs,putWs_map L r];rfl
theorem putW_eq (L : Mw) (w : Wd) : putW L w = match lookW w.nm L with
  | some v=>v
  | none=>.mk w.nm (w.args.map (putW L)):=by
 cases w with | mk a l=>rw [putW,putWs_map];rfl
section
variable (sc : List ByteArray → List ByteArray) (fr : ByteArray → List ByteArray → ByteArray)
def isQ (k : Int) : Bool:=decide (k = 9) || decide (k = 10)
mutual
def freeX : Ex → List ByteArray
 | .mk k nm ws l=>sc (if isQ k = true then (varsWs ws ++ freeXs l).filter (fun n=>!decide (n = nm)) else varsWs ws ++ freeXs l)
def freeXs : List Ex → List ByteArray
 | []=>[]
 | e :: r=>freeX e ++ freeXs r
end
theorem freeX_eq (e : Ex) : freeX sc e = sc (if isQ e.k = true then (varsWs e.words ++ freeXs sc e.kids).filter (fun n=>!decide (n = e.nm)) else varsWs e.words ++ freeXs sc e.kids):=by
 cases e with | mk k a w l=>rw [freeX];rfl
theorem freeXs_mem {y : ByteArray} : ∀ {l : List Ex},y ∈ freeXs sc l ↔ ∃ w ∈ l,y ∈ freeX sc w
 | []=>by rw [freeXs];simp
 | w :: r=>by rw [freeXs,List.mem_append,freeXs_mem (l:=r)];simp
def takenX (L : Mw) (n : ByteArray) : List ByteArray:=match lookW n L with
 | some w=>varsW w
 | none=>[n]
def nowL (L : Mw) : List ByteArray → Mw
 | []=>[]
 | n :: r=>match lookW n L with
  | some w=>(n,w) :: nowL L r
  | none=>nowL L r
def newNm (L : Mw) (nm : ByteArray) (free : List ByteArray) : ByteArray:=fr nm (free.flatMap (takenX L))
def mapX (L : Mw) (nm : ByteArray) (free : List ByteArray) : Mw:=nowL L free ++ if newNm fr L nm free ≠ nm then [(nm,.mk (newNm fr L nm free) [])] else []
mutual
def putX : Ex → Mw → Ex
 | .mk k nm ws l=>fun L=>if isQ k = true then .mk k (newNm fr L nm (freeX sc (.mk k nm ws l))) (ws.map (putW L)) (putXs l (mapX fr L nm (freeX sc (.mk k nm ws l)))) else .mk k nm (ws.map (putW L)) (putXs l L)
def putXs : List Ex → Mw → List Ex
 | []=>fun _=>[]
 | e :: r=>fun L=>putX e L :: putXs r L
end
theorem putXs_map (L : Mw) : ∀ l : List Ex,putXs sc fr l L = l.map fun e=>putX sc fr e L
 | []=>rfl
 | w :: r=>by
  rw [putXs,List.map_cons]
  dsimp only
  rw [putXs_map L r]
theorem putX_eq (e : Ex) (L : Mw) : putX sc fr e L = if isQ e.k = true then .mk e.k (newNm fr L e.nm (freeX sc e)) (e.words.map (putW L)) (e.kids.map fun q=>putX sc fr q (mapX fr L e.nm (freeX sc e))) else .mk e.k e.nm (e.words.map (putW L)) (e.kids.map fun q=>putX sc fr q L):=by
 cases e with
 | mk k a w l=>
  rw [putX]
  dsimp only
  rw [putXs_map,putXs_map]
  rfl
end
def lettersL (n : Nat) : List UInt8:=if h : n < 26 then [UInt8.ofNat (97 + n)] else lettersL (n / 26 - 1) ++ [UInt8.ofNat (97 + n % 26)]
termination_by n
decreasing_by omega
theorem lettersL_eq (n : Nat) : lettersL n = if n < 26 then [UInt8.ofNat (97 + n % 26)] else lettersL (n / 26 - 1) ++ [UInt8.ofNat (97 + n % 26)]:=by
 rw [lettersL]
 split
 ·rename_i h;rw [Nat.mod_eq_of_lt h]
 ·rfl
theorem lettersL_ne (n : Nat) : lettersL n ≠ []:=by
 rw [lettersL_eq]
 split <;> simp
theorem u8_inj {a b : Nat} (ha : a < 26) (hb : b < 26) (h : UInt8.ofNat (97 + a) = UInt8.ofNat (97 + b)) : a = b:=by
 have:=congrArg UInt8.toNat h
 rw [UInt8.toNat_ofNat',UInt8.toNat_ofNat'] at this
 omega
theorem snoc_inj {α : Type} {a b : List α} {x y : α} (h : a ++ [x] = b ++ [y]) : a = b ∧ x = y:=by
 have:=List.append_inj' h rfl
 exact ⟨this.1,by simpa using this.2⟩
theorem lettersL_inj : ∀ (m n : Nat),lettersL m = lettersL n → m = n:=by
 intro m
 induction m using Nat.strongRecOn with
 | _ m ih=>
  intro n h
  rw [lettersL_eq m,lettersL_eq n] at h
  have hm:=Nat.mod_lt m (show 0 < 26 by decide)
  have hn:=Nat.mod_lt n (show 0 < 26 by decide)
  by_cases h1 : m < 26
  ·rw [if_pos h1] at h
   by_cases h2 : n < 26
   ·rw [if_pos h2] at h
    have:=u8_inj hm hn (by simpa using h)
    rw [Nat.mod_eq_of_lt h1,Nat.mod_eq_of_lt h2] at this
    exact this
   ·rw [if_neg h2] at h
    have:=(snoc_inj (a:=[]) h).1
    exact absurd this.symm (lettersL_ne _)
  ·rw [if_neg h1] at h
   by_cases h2 : n < 26
   ·rw [if_pos h2] at h
    have:=(snoc_inj (b:=[]) h).1
    exact absurd this (lettersL_ne _)
   ·rw [if_neg h2] at h
    obtain ⟨a1,a2⟩:=snoc_inj h
    have e1:=u8_inj hm hn a2
    have e2:=ih (m / 26 - 1) (by omega) _ a1
    omega
def lettersB (n : Nat) : ByteArray:=⟨(lettersL n).toArray⟩
theorem lettersB_inj {m n : Nat} (h : lettersB m = lettersB n) : m = n:=by
 unfold lettersB at h
 refine lettersL_inj m n ?_
 have:=congrArg (fun b : ByteArray=>b.data.toList) h
 simpa using this
def hasB (t : List ByteArray) (x : ByteArray) : Bool:=t.any fun y=>decide (x = y)
theorem hasB_iff {t : List ByteArray} {x : ByteArray} : hasB t x = true ↔ x ∈ t:=by
 unfold hasB
 rw [List.any_eq_true]
 exact ⟨fun ⟨z,hz,h⟩=>of_decide_eq_true h ▸ hz,fun h=>⟨x,h,decide_eq_true rfl⟩⟩
def findF (t : List ByteArray) : Nat → Nat → Nat
 | 0,k=>k
 | f + 1,k=>if hasB t (lettersB k) = true then findF t f (k + 1) else k
def freshN (like : ByteArray) (t : List ByteArray) : ByteArray:=if hasB t like = true then lettersB (findF t t.length 0) else like
theorem pigeon {α : Type} : ∀ (l t : List α),l.Nodup → (∀ x ∈ l,x ∈ t) → l.length ≤ t.length
 | [],t,_,_=>Nat.zero_le _
 | a :: r,t,hn,hs=>by
  classical
  rw [List.nodup_cons] at hn
  have ha:=hs a (by simp)
  have hr : ∀ x ∈ r,x ∈ t.erase a:=fun x hx=>by
   have hxa : x ≠ a:=fun g=>hn.1 (g ▸ hx)
   rw [List.mem_erase_of_ne hxa]
   exact hs x (by simp [hx])
  have:=pigeon r (t.erase a) hn.2 hr
  have hl:=List.length_erase_of_mem ha
  have:=List.length_pos_of_mem ha
  rw [List.length_cons]
  omega
theorem findF_spec (t : List ByteArray) : ∀ f k,(∀ j,j < k → hasB t (lettersB j) = true) → k + f = t.length → hasB t (lettersB (findF t f k)) = false ∧ ∀ j,k ≤ j → j < findF t f k → hasB t (lettersB j) = true
 | 0,k,h,hk=>by
  rw [findF]
  refine ⟨?_,fun j h1 h2=>absurd h1 (by omega)⟩
  cases hb : hasB t (lettersB k) with
  | false=>rfl
  | true=>
   exfalso
   have:=pigeon ((List.range (k + 1)).map lettersB) t (by
    rw [List.nodup_iff_pairwise_ne,List.pairwise_map]
    exact List.nodup_range.imp fun {a b} hab g=>hab (lettersB_inj g)) (fun x hx=>by
    obtain ⟨j,hj,rfl⟩:=List.mem_map.1 hx
    rw [List.mem_range] at hj
    rw [← hasB_iff]
    by_cases hjk : j = k
    ·rw [hjk];exact hb
    ·exact h j (by omega))
   rw [List.length_map,List.length_range] at this
   omega
 | f + 1,k,h,hk=>by
  rw [findF]
  cases hb : hasB t (lettersB k) with
  | false=>rw [if_neg (by simp)];exact ⟨hb,fun j h1 h2=>absurd h1 (by omega)⟩
  | true=>
   rw [if_pos rfl]
   have:=findF_spec t f (k + 1) (fun j hj=>by
    by_cases hjk : j = k
    ·rw [hjk];exact hb
    ·exact h j (by omega)) (by omega)
   refine ⟨this.1,fun j h1 h2=>?_⟩
   by_cases hjk : j = k
   ·rw [hjk];exact hb
   ·exact this.2 j (by omega) h2
theorem freshN_new (a : ByteArray) (t : List ByteArray) : freshN a t ∉ t:=by
 unfold freshN
 rw [← hasB_iff]
 split
 ·rw [(findF_spec t t.length 0 (fun j hj=>absurd hj (by omega)) (by omega)).1];simp
 ·rename_i h;exact h
end Go.Proofs.Ytbimioonhfhflaa
namespace Go.Proofs.Ytbimioonhfhflaa
open Go Go.Pv
theorem take_snocD {α : Type} {l : List α} {i : Nat} (h : i < l.length) : l.take (i + 1) = l.take i ++ [l[i]]:=by
 rw [List.take_add_one,List.getElem?_eq_getElem h];rfl
def x69_T1 : XC:=.seq (.reg [⟨some 24,.load 31 (.tmp 3),none⟩,⟨none,.store 31 (.tmp 2) (.tmp 24),none⟩]) .ret
def x69_L0 : XC:=.seq (.reg [⟨some 13,.binOp .lss 3 (.tmp 12) (.tmp 11) 3,none⟩]) (.seq (.cond (.tmp 13) .skip (.exit 0)) (.seq (.block 1 (.seq (.reg [⟨some 14,.indexAddr 26 (.tmp 10) (.tmp 12),none⟩,⟨some 15,.load 31 (.tmp 14),none⟩,⟨some 5,.alloc 31,none⟩,⟨none,.store 31 (.tmp 5) (.tmp 15),none⟩]) (.drawn 5 [⟨some 16,.fieldAddr 31 (.tmp 3) 1,none⟩,⟨some 17,.load 26 (.tmp 16),none⟩,⟨some 18,.load 31 (.tmp 5),none⟩,⟨some 19,.call ⟨.value (.func 69),#[.tmp 18],#[31]⟩,none⟩,⟨some 20,.buildSlice 26 1 #[(0,.tmp 19)],none⟩,⟨some 21,.call ⟨.builtin .append,#[.tmp 17,.tmp 20],#[26,26]⟩,none⟩,⟨some 22,.fieldAddr 31 (.tmp 3) 1,none⟩,⟨none,.store 26 (.tmp 22) (.tmp 21),none⟩]))) (.reg [⟨some 23,.binOp .add 3 (.tmp 12) (.const (.int .i64 1)) 3,none⟩,⟨some 12,.move (.tmp 23),none⟩])))
def x69 : XC:=.seq (.reg [⟨some 1,.box 31 (.tmp 0),none⟩,⟨some 2,.alloc 31,none⟩]) (.seq (.reg [⟨some 6,.fieldAddr 31 (.tmp 1) 0,none⟩,⟨some 7,.load 9 (.tmp 6),none⟩,⟨some 8,.build 31 #[(0,.tmp 7)],none⟩,⟨some 3,.alloc 31,none⟩,⟨none,.store 31 (.tmp 3) (.tmp 8),none⟩]) (.seq (.seq (.reg [⟨some 9,.fieldAddr 31 (.tmp 1) 1,none⟩,⟨some 10,.load 26 (.tmp 9),none⟩,⟨some 11,.call ⟨.builtin .len,#[.tmp 10],#[26]⟩,none⟩,⟨some 12,.move (.const (.int .i64 0)),none⟩]) (.bloop 0 x69_L0)) (x69_T1)))
@[simp] theorem x69_s {C e s K} : type_of% (@X_at C e s K _ _ x69_T1.eq_1) ∧ type_of% (@X_at C e s K _ _ x69_L0.eq_1) ∧ type_of% (@X_at C e s K _ _ x69.eq_1):=⟨X_at x69_T1.eq_1,X_at x69_L0.eq_1,X_at x69.eq_1⟩
def an69 : Ann:=⟨[(5,.mix 5)],[(0,[(3,some 1,2)],[2,3,10,11,12],[2,3])],[]⟩
@[simp] theorem an69_a : an69.clsOf 5 = .mix 5 ∧ an69.frzOf 5 = [] ∧ an69.loopOf 0 = ([(3,some 1,2)],[2,3,10,11,12],[2,3]):=⟨rfl,rfl,rfl⟩
theorem fi69 : FI Try.prog 69 (cxA an69) x69 [.cell 2 31] Try.f69:=fiA Try.func69 mixed
theorem CopyWord_step (w : Wd) (hl : w.args.length ≤ 30000) (ih : ∀ x ∈ w.args,CallOK Try.prog 69 [.agg (wrd x)] [] (.agg (wrd x)) []) : CallOK Try.prog 69 [.agg (wrd w)] [] (.agg (wrd w)) []:=by
 have he:=wrd_eq w
 refine fi69.os ?_
 (refine Sg.h ?_;try repeat' ((with_reducible first|refine brA ?_|refine brE fun _=>?_|refine spl ⟨?_,?_⟩<;>intro _)<;>((try simp -implicitDefEqProofs(disch:=first|assumption|(try simp only[lens]);omega -splitDisjunctions)))))
 refine W_of fun Q hQ=>?_
 have main : ∀ n i,i + n = w.args.length → Q [(2,.ptr 0 0 0),(3,.ptr 1 0 0),(10,.list (w.args.map wrd)),(11,.int .i64 (w.args.length : Int)),(12,.int .i64 (i : Int))] [.rows 2 [[.str ⟨#[]⟩,.nilsl]],.rows 2 [[.str w.nm,.sl 2 0 (w.args.take i).length]],.rows 2 ((w.args.take i).map wrd)]:=by
  intro n
  induction n with
  | zero=>
   intro i hi
   rw [List.take_of_length_le (by omega)]
   have hi' : ¬ (i : Int) < (w.args.length : Int):=by omega
   apply hQ
   clear hQ ih
   (refine Sg.h ?_;try repeat' ((with_reducible first|refine brA ?_|refine brE fun _=>?_|refine spl ⟨?_,?_⟩<;>intro _)<;>((try simp -implicitDefEqProofs(disch:=first|assumption|(try simp only[lens]);omega -splitDisjunctions) [hi',he]))))
  | succ n ihn=>
   intro i hi
   have hil : i < w.args.length:=by omega
   have ihn:=ihn (i + 1) (by omega)
   have hc:=ih w.args[i] (List.getElem_mem ..)
   rw [take_snocD hil] at ihn
   have hlt : (w.args.take i).length ≤ 30000:=by rw [List.length_take];omega
   have hi' : (i : Int) < (w.args.length : Int):=by omega
   generalize w.args.take i = T at *
   generalize hx : w.args[i] = x at *
   rw [List.map_append,List.map_singleton] at ihn
   clear ih
   apply hQ
   clear hQ
   (refine Sg.h ?_;try repeat' ((first|(with_reducible first|refine brA ?_|refine brE fun _=>?_|refine spl ⟨?_,?_⟩<;>intro _)|refine clo hc ?_)<;>((try simp -implicitDefEqProofs(disch:=first|assumption|(try simp only[lens]);omega -splitDisjunctions) [hi',hil,hx]))))
   all_goals first|exact ihn|(refine at2 ihn ?_ ?_<;>simp;done)|(exfalso;first|omega|(simp_all;done)|(simp_all;omega))
 all_goals first|exact main w.args.length 0 (Nat.zero_add _)|(refine at2 main w.args.length 0 (Nat.zero_add _) ?_ ?_<;>simp;done)|(exfalso;first|omega|(simp_all;done)|(simp_all;omega))
mutual
def szW : Wd → Nat
 | .mk _ l=>szWs l + 1
def szWs : List Wd → Nat
 | []=>0
 | w :: r=>szW w + szWs r
end
theorem szW_eq (w : Wd) : szW w = szWs w.args + 1:=by cases w with | mk a l=>rw [szW];rfl
theorem szWs_mem {w : Wd} : ∀ {l : List Wd},w ∈ l → szW w ≤ szWs l
 | [],h=>by cases h
 | a :: r,h=>by
  rw [szWs]
  rcases List.mem_cons.1 h with rfl | h
  ·omega
  ·have:=szWs_mem h;omega
theorem szWs_len : ∀ l : List Wd,l.length ≤ szWs l
 | []=>Nat.zero_le _
 | a :: r=>by
  have:=szWs_len r
  rw [szWs,List.length_cons,szW_eq]
  omega
theorem szWs_take {l : List Wd} : ∀ i,szWs (l.take i) ≤ szWs l:=by
 induction l with
 | nil=>intro i;simp [szWs]
 | cons a r ih=>
  intro i
  cases i with
  | zero=>rw [List.take_zero,szWs];exact Nat.zero_le _
  | succ i=>rw [List.take_succ_cons,szWs,szWs];have:=ih i;omega
theorem CopyWord_first (w : Wd) : szW w ≤ 30000 → CallOK Try.prog 69 [.agg (wrd w)] [] (.agg (wrd w)) []:=by
 induction w using Wd.ind with
 | h w ih=>
  intro h
  rw [szW_eq] at h
  have:=szWs_len w.args
  exact CopyWord_step w (by omega) fun x hx=>ih x hx (by have:=szWs_mem hx;omega)
theorem varsWs_app (a b : List Wd) : varsWs (a ++ b) = varsWs a ++ varsWs b:=by
 induction a with
 | nil=>rw [varsWs];rfl
 | cons x r ih=>rw [List.cons_append,varsWs,varsWs,ih,List.append_assoc]
theorem varsW_sz (w : Wd) : (varsW w).length ≤ szW w:=by
 have hk : ∀ l : List Wd,(∀ x ∈ l,(varsW x).length ≤ szW x) → (varsWs l).length ≤ szWs l:=by
  intro l
  induction l with
  | nil=>intro _;rw [varsWs];exact Nat.zero_le _
  | cons a r ih=>
   intro h
   have h1:=h a (by simp)
   have h2:=ih fun x hx=>h x (by simp [hx])
   rw [varsWs,szWs,List.length_append]
   omega
 induction w using Wd.ind with
 | h w ih=>
  rw [varsW_eq,szW_eq]
  split
  ·simp
  ·have:=hk w.args ih;omega
def x44_T1 : XC:=.seq (.reg [⟨some 24,.move (.tmp 3),none⟩,⟨some 2,.assign (.tmp 24),none⟩]) .ret
def x44_L0 : XC:=.seq (.reg [⟨some 16,.binOp .lss 3 (.tmp 15) (.tmp 14) 3,none⟩]) (.seq (.cond (.tmp 16) .skip (.exit 0)) (.seq (.block 1 (.seq (.reg [⟨some 17,.indexAddr 26 (.tmp 13) (.tmp 15),none⟩,⟨some 18,.load 31 (.tmp 17),none⟩,⟨some 5,.alloc 31,none⟩,⟨none,.store 31 (.tmp 5) (.tmp 18),none⟩]) (.reg [⟨some 19,.move (.tmp 3),none⟩,⟨some 20,.load 31 (.tmp 5),none⟩,⟨some 21,.call ⟨.value (.func 44),#[.tmp 20],#[31]⟩,none⟩,⟨some 22,.call ⟨.builtin .append,#[.tmp 19,.tmp 21],#[32,32]⟩,none⟩,⟨some 3,.assign (.tmp 22),none⟩]))) (.reg [⟨some 23,.binOp .add 3 (.tmp 15) (.const (.int .i64 1)) 3,none⟩,⟨some 15,.move (.tmp 23),none⟩])))
def x44 : XC:=.seq (.reg [⟨some 1,.box 31 (.tmp 0),none⟩,⟨some 2,.assign (.const (.slice none 0 0)),none⟩]) (.seq (.seq (.reg [⟨some 6,.fieldAddr 31 (.tmp 1) 0,none⟩,⟨some 7,.load 9 (.tmp 6),none⟩,⟨some 8,.call ⟨.value (.func 24),#[.tmp 7],#[9]⟩,none⟩]) (.cond (.tmp 8) (.seq (.reg [⟨some 9,.fieldAddr 31 (.tmp 1) 0,none⟩,⟨some 10,.load 9 (.tmp 9),none⟩,⟨some 11,.buildSlice 32 1 #[(0,.tmp 10)],none⟩,⟨some 2,.assign (.tmp 11),none⟩]) .ret) .skip)) (.seq (.reg [⟨some 3,.assign (.const (.slice none 0 0)),none⟩]) (.seq (.seq (.reg [⟨some 12,.fieldAddr 31 (.tmp 1) 1,none⟩,⟨some 13,.load 26 (.tmp 12),none⟩,⟨some 14,.call ⟨.builtin .len,#[.tmp 13],#[26]⟩,none⟩,⟨some 15,.move (.const (.int .i64 0)),none⟩]) (.bloop 0 x44_L0)) (x44_T1))))
@[simp] theorem x44_s {C e s K} : type_of% (@X_at C e s K _ _ x44_T1.eq_1) ∧ type_of% (@X_at C e s K _ _ x44_L0.eq_1) ∧ type_of% (@X_at C e s K _ _ x44.eq_1):=⟨X_at x44_T1.eq_1,X_at x44_L0.eq_1,X_at x44.eq_1⟩
def an44 : Ann:=⟨[],[(0,[(3,none,1)],[3,13,14,15],[3])],[]⟩
@[simp] theorem an44_a : an44.loopOf 0 = ([(3,none,1)],[3,13,14,15],[3]):=rfl
theorem fi44 : FI Try.prog 44 (cxA an44) x44 [.tmp 2] Try.f44:=fiA Try.func44 mixed
theorem Vars_first (w : Wd) : szW w ≤ 100000 → CallOK Try.prog 44 [.agg (wrd w)] [] (.list ((varsW w).map strRow)) []:=by
 induction w using Wd.ind with
 | h w ih=>
  intro hsz
  have he:=wrd_eq w
  have hnm:=isName_formula w.nm []
  rw [szW_eq] at hsz
  refine fi44.os ?_
  cases hn : isNameB w.nm with
  | true=>
   rw [hn] at hnm
   rw [varsW_eq,if_pos hn]
   (refine Sg.h ?_;try repeat' ((first|(with_reducible first|refine brA ?_|refine brE fun _=>?_|refine spl ⟨?_,?_⟩<;>intro _)|refine clo hnm ?_)<;>((try simp -implicitDefEqProofs(disch:=first|assumption|(try simp only[lens]);omega -splitDisjunctions)))))
  | false=>
   rw [hn] at hnm
   rw [varsW_eq,if_neg (by simp [hn])]
   (refine Sg.h ?_;try repeat' ((first|(with_reducible first|refine brA ?_|refine brE fun _=>?_|refine spl ⟨?_,?_⟩<;>intro _)|refine clo hnm ?_)<;>((try simp -implicitDefEqProofs(disch:=first|assumption|(try simp only[lens]);omega -splitDisjunctions)))))
   refine W_of fun Q hQ=>?_
   have hvs : ∀ l : List Wd,(varsWs l).length ≤ szWs l:=by
    intro l
    induction l with
    | nil=>rw [varsWs];exact Nat.zero_le _
    | cons a r ih=>have h1:=varsW_sz a;rw [varsWs,szWs,List.length_append];omega
   have main : ∀ n i,i + n = w.args.length → Q [(3,.sl 0 0 (varsWs (w.args.take i)).length),(13,.list (w.args.map wrd)),(14,.int .i64 (w.args.length : Int)),(15,.int .i64 (i : Int))] [.rows 1 ((varsWs (w.args.take i)).map strRow)]:=by
    intro n
    induction n with
    | zero=>
     intro i hi
     rw [List.take_of_length_le (by omega)]
     have hi' : ¬ (i : Int) < (w.args.length : Int):=by omega
     have hv:=hvs w.args
     apply hQ
     clear hQ ih
     (refine Sg.h ?_;try repeat' ((with_reducible first|refine brA ?_|refine brE fun _=>?_|refine spl ⟨?_,?_⟩<;>intro _)<;>((try simp -implicitDefEqProofs(disch:=first|assumption|(try simp only[lens]);omega -splitDisjunctions) [hi',he]))))
    | succ n ihn=>
     intro i hi
     have hil : i < w.args.length:=by omega
     have ihn:=ihn (i + 1) (by omega)
     have hm:=List.getElem_mem hil
     have hc:=ih w.args[i] hm (by have:=szWs_mem hm;omega)
     have hv1:=hvs (w.args.take i)
     have hv2:=szWs_take (l:=w.args) i
     have hv3:=varsW_sz w.args[i]
     have hv4:=szWs_mem hm
     rw [take_snocD hil,varsWs_app,varsWs,varsWs,List.append_nil] at ihn
     have hi' : (i : Int) < (w.args.length : Int):=by omega
     generalize varsWs (w.args.take i) = T at *
     generalize hx : w.args[i] = x at *
     generalize varsW x = U at *
     rw [List.map_append] at ihn
     clear ih hvs
     apply hQ
     clear hQ
     (refine Sg.h ?_;try repeat' ((first|(with_reducible first|refine brA ?_|refine brE fun _=>?_|refine spl ⟨?_,?_⟩<;>intro _)|refine clo hc ?_)<;>((try simp -implicitDefEqProofs(disch:=first|assumption|(try simp only[lens]);omega -splitDisjunctions) [hi',hil,hx]))))
     all_goals first|exact ihn|(refine at2 ihn ?_ ?_<;>simp;done)|(exfalso;first|omega|(simp_all;done)|(simp_all;omega))
   all_goals first|exact main w.args.length 0 (Nat.zero_add _)|(refine at2 main w.args.length 0 (Nat.zero_add _) ?_ ?_<;>simp;done)|(exfalso;first|omega|(simp_all;done)|(simp_all;omega))
end Go.Proofs.Ytbimioonhfhflaa
