import Derived.Test.YtbimioonhfhflaaATy
import Derived.Laws.RangeString
import Derived.Test.YtbimioonhfhflaaAPvPan
import Derived.Test.YtbimioonhfhflaaAPvRec
set_option linter.unusedVariables false
set_option linter.unusedSimpArgs false
set_option maxRecDepth 100000
set_option maxHeartbeats 4000000
namespace Go.Proofs.Ytbimioonhfhflaa
open Go Go.Pv
def kidsN (n : Int) : Int:=if n = 1 ∨ n = 2 ∨ n = 3 then 0 else if n = 4 ∨ n = 8 ∨ n = 9 then 1 else if n = 5 ∨ n = 6 ∨ n = 7 then 2 else -1
def letterB (b : UInt8) : Bool:=decide (97 ≤ b.toNat ∧ b.toNat ≤ 122)
def isNameB (s : ByteArray) : Bool:=decide (1 ≤ s.size ∧ s.size ≤ 8) && s.data.toList.all letterB
theorem decode_high (s : ByteArray) (i : Nat) (h : i < s.size) (hb : 128 ≤ s[i].toNat) : 128 ≤ (Utf8.decode s i).1:=by
 have hg : (s.get! (i + 0)).toNat = s[i].toNat:=by
  rw [Nat.add_zero]
  show (s.data[i]!).toNat = _
  rw [getElem!_pos s.data i h];rfl
 unfold Utf8.decode
 simp only [hg,Utf8.runeError]
 rw [if_neg (by omega)]
 split
 ·split
  ·assumption
  ·decide
 ·split
  ·split
   ·rename_i h1;simp only [Bool.and_eq_true,decide_eq_true_eq] at h1;omega
   ·decide
  ·split
   ·split
    ·rename_i h1;simp only [Bool.and_eq_true,decide_eq_true_eq] at h1;omega
    ·decide
   ·decide
theorem decode_letter (s : ByteArray) (i : Nat) (h : i < s.size) : (letterB s[i] = true → Utf8.decode s i = (s[i].toNat,1)) ∧ (letterB s[i] = false → (Utf8.decode s i).1 < 97 ∨ 122 < (Utf8.decode s i).1):=by
 refine ⟨fun hl=>?_,fun hl=>?_⟩
 ·simp only [letterB,decide_eq_true_eq] at hl
  exact decode_ascii s i h (by omega)
 ·simp only [letterB,decide_eq_false_iff_not] at hl
  by_cases hb : s[i].toNat < 128
  ·rw [decode_ascii s i h hb];simp only;omega
  ·have:=decode_high s i h (by omega);omega
theorem all_letter (s : ByteArray) : s.data.toList.all letterB = true ↔ ∀ i (h : i < s.size),letterB s[i] = true:=by
 rw [List.all_eq_true]
 constructor
 ·intro h i hi;exact h _ (by simp [ByteArray.getElem_eq_getElem_data])
 ·intro h b hb
  obtain ⟨i,hi,rfl⟩:=List.mem_iff_getElem.1 hb
  exact h i (by simpa using hi)
theorem letter_of_decode (t : ByteArray) (i : Nat) (hi : i < t.size) (h1 : 97 ≤ ((Utf8.decode t i).1 : Int)) (h2 : ((Utf8.decode t i).1 : Int) ≤ 122) : letterB t[i] = true:=by
 cases hb : letterB t[i] with
 | true=>rfl
 | false=>have:=(decode_letter t i hi).2 hb;omega
theorem no_name (t : ByteArray) (i : Nat) (hi : i < t.size) (h : ((Utf8.decode t i).1 : Int) < 97 ∨ 122 < ((Utf8.decode t i).1 : Int)) : isNameB t = false:=by
 have h1 : letterB t[i] = false:=by
  cases hb : letterB t[i] with
  | false=>rfl
  | true=>
   have:=(decode_letter t i hi).1 hb
   simp only [letterB,decide_eq_true_eq] at hb
   rw [this] at h;simp only at h;omega
 have h2 : ¬ t.data.toList.all letterB = true:=by
  rw [all_letter];intro h3;rw [h3 i hi] at h1;cases h1
 simp [isNameB,h2]
theorem isName_formula (t : ByteArray) (s : Store) : CallOK Try.prog 24 [.str t] s (.bool (isNameB t)) s:=by
 have _hty:=ty21
 refine CallOK.frame ?_ ?_
 ·refine callOK_of Try.func24 rfl rfl Try.ntmps24 (by simp) ?_
  rw [Try.results24]
  dsimp only [light,regL,dsts,lopsL,lop,nth]
  (have F_:=True.intro);repeat' (first | (with_reducible refine stp ?_) | (with_reducible refine hq _ _ ?_;clear hq q) | (with_reducible refine hk _ _ ?_;clear hk k) | (with_reducible refine EvL.regA (fun k hk=>?_)) | ((with_reducible apply WOps.call);(· fail)) | (with_reducible refine WOps.auto F_ (fun q hq=>?_)) | ((with_reducible refine EvL.condA ?_ ?_);all_goals (intro h <;> (try simp only [hna,hnb,hnc,ne_eq,reduceCtorEq,Int.reduceEq,gt_iff_lt,ge_iff_le] at h) <;> (try (exfalso;omega;done)))) | (with_reducible refine EvL.drawnA (fun k hk=>?_)) | (with_reducible refine EvL.mixA (fun k hk=>?_)) | (with_reducible refine EvL.mix2A (fun k hk=>?_)) | (with_reducible refine WMix.bothA F_ ?_ ?_) | (with_reducible refine WOps.takeA ?_) | (with_reducible refine WOps.passA ?_) | ((with_reducible refine WOps.splitA ?_ ?_);all_goals (intro h <;> simp only [h] <;> (try simp only [hna,hnb,hnc,ne_eq,reduceCtorEq,Int.reduceEq,gt_iff_lt,ge_iff_le] at h) <;> (try (exfalso;omega;done)))) | (with_reducible refine WMix.takeA ?_) | (with_reducible refine WMix.passA ?_) | (with_reducible refine WMix.consA F_ ?_) | (with_reducible refine WMix.makeA F_ ?_) | ((with_reducible refine And.intro ?_ ?_);(· omega)) | ((with_reducible refine And.intro (fun h=>?_) (fun h=>?_)) <;> (try simp only [Decidable.not_not] at h) <;> (try simp only [h])) | (with_reducible intro hl))
  all_goals first | ((refine finA ?_;try exact trivial);simp [isNameB];omega;done) | skip
  ·refine EvL.loop (X := Nat) (fun i => [(0,.str t),(14,.ptr 0 0 0)]) (fun i => [.iter t i]) (fun i => i ≤ t.size ∧ ∀ j (h : j < t.size),j < i → letterB t[j] = true) (fun i => t.size - i) 0 ⟨by omega,fun j _ h => by omega⟩
    (View.of [0] _ (by simp) (by decide) (by (refine vw ?_;try exact trivial)) (by (refine vw ?_;try exact trivial))) (fun i hi=>?_)
   (have F_:=True.intro);repeat' (first | (with_reducible refine stp ?_) | (with_reducible refine hq _ _ ?_;clear hq q) | (with_reducible refine hk _ _ ?_;clear hk k) | (with_reducible refine EvL.regA (fun k hk=>?_)) | ((with_reducible apply WOps.call);(· fail)) | (with_reducible refine WOps.auto F_ (fun q hq=>?_)) | ((with_reducible refine EvL.condA ?_ ?_);all_goals (intro h <;> (try simp only [hna,hnb,hnc,ne_eq,reduceCtorEq,Int.reduceEq,gt_iff_lt,ge_iff_le] at h) <;> (try (exfalso;omega;done)))) | (with_reducible refine EvL.drawnA (fun k hk=>?_)) | (with_reducible refine EvL.mixA (fun k hk=>?_)) | (with_reducible refine EvL.mix2A (fun k hk=>?_)) | (with_reducible refine WMix.bothA F_ ?_ ?_) | (with_reducible refine WOps.takeA ?_) | (with_reducible refine WOps.passA ?_) | ((with_reducible refine WOps.splitA ?_ ?_);all_goals (intro h <;> simp only [h] <;> (try simp only [hna,hnb,hnc,ne_eq,reduceCtorEq,Int.reduceEq,gt_iff_lt,ge_iff_le] at h) <;> (try (exfalso;omega;done)))) | (with_reducible refine WMix.takeA ?_) | (with_reducible refine WMix.passA ?_) | (with_reducible refine WMix.consA F_ ?_) | (with_reducible refine WMix.makeA F_ ?_) | ((with_reducible refine And.intro ?_ ?_);(· omega)) | ((with_reducible refine And.intro (fun h=>?_) (fun h=>?_)) <;> (try simp only [Decidable.not_not] at h) <;> (try simp only [h])) | (with_reducible intro hl))
   all_goals first | ((refine finA ?_;try exact trivial);rw [no_name t i ‹_› (by omega)];done) | skip
   ·have h1 : letterB t[i] = true := letter_of_decode t i ‹_› (by omega) (by omega)
    have h2:=(decode_letter t i ‹_›).1 h1
    rw [h2]
    refine ⟨i + 1,⟨by omega,fun j hj hji=>?_⟩,by omega,View.of [0] _ (by simp) (by decide) (by (refine vw ?_;try exact trivial)) (by (refine vw ?_;try exact trivial))⟩
    by_cases e : j = i
    ·subst e;exact h1
    ·exact hi.2 j hj (by omega)
   ·(refine finA ?_; try exact trivial)
    have h2 : t.data.toList.all letterB = true:=by
     rw [all_letter];intro j hj;exact hi.2 j hj (by omega)
    simp [isNameB,h2];omega
 ·simp [flat_str,Flat.closed]
end Go.Proofs.Ytbimioonhfhflaa
namespace Go.Proofs.Ytbimioonhfhflaa
open Go Go.Pv
def rd (t : ByteArray) (i : Nat) : PObj:=.rows 2 [[.str t,.int .i64 (i : Int)]]
attribute [simp] rd
def isBl (c : UInt8) : Bool:=c.toNat == 32 || c.toNat == 10
def blk (t : ByteArray) : Nat → Nat → Nat
 | 0,i=>i
 | n + 1,i=>if h : i < t.size then (if isBl t[i] = true then blk t n (i + 1) else i) else i
def bl (t : ByteArray) (i : Nat) : Nat:=blk t (t.size - i) i
theorem bl_end {t : ByteArray} {i : Nat} (h : ¬ i < t.size) : bl t i = i:=by
 unfold bl;rw [show t.size - i = 0 by omega];rfl
theorem bl_stop {t : ByteArray} {i : Nat} (h : i < t.size) (hb : isBl t[i] = false) : bl t i = i:=by
 unfold bl;rw [show t.size - i = (t.size - (i + 1)) + 1 by omega,blk,dif_pos h,if_neg (by simp [hb])]
theorem bl_step {t : ByteArray} {i : Nat} (h : i < t.size) (hb : isBl t[i] = true) : bl t i = bl t (i + 1):=by
 unfold bl;rw [show t.size - i = (t.size - (i + 1)) + 1 by omega,blk,dif_pos h,if_pos hb]
theorem blk_le (t : ByteArray) : ∀ n i,i ≤ blk t n i ∧ (i ≤ t.size → blk t n i ≤ t.size)
 | 0,i=>⟨Nat.le_refl _,id⟩
 | n + 1,i=>by
  unfold blk
  split
  ·split
   ·have:=blk_le t n (i + 1);exact ⟨by omega,fun _=>this.2 (by omega)⟩
   ·exact ⟨Nat.le_refl _,id⟩
  ·exact ⟨Nat.le_refl _,id⟩
theorem bl_ge (t : ByteArray) (i : Nat) : i ≤ bl t i:=(blk_le t _ i).1
theorem bl_le {t : ByteArray} {i : Nat} (h : i ≤ t.size) : bl t i ≤ t.size:=(blk_le t _ i).2 h
def hp (t : ByteArray) (i : Nat) (w : ByteArray) : Bool:=decide (i + w.size ≤ t.size ∧ t.extract i (i + w.size) = w)
theorem ext_ext (t : ByteArray) (i n : Nat) (h : i + n ≤ t.size) : (t.extract i t.size).extract 0 n = t.extract i (i + n):=by
 rw [ByteArray.extract_extract,Nat.add_zero,Nat.min_eq_left (by omega)]
def x108 : XC:=.seq (.reg [⟨some 4,.assign (.const (.bool false)),none⟩]) (.seq (.reg [⟨some 5,.move (.tmp 0),none⟩,⟨some 6,.call ⟨.builtin .len,#[.tmp 5],#[9]⟩,none⟩,⟨some 7,.move (.tmp 1),none⟩,⟨some 8,.call ⟨.builtin .len,#[.tmp 7],#[9]⟩,none⟩,⟨some 9,.binOp .geq 3 (.tmp 6) (.tmp 8) 3,none⟩,⟨some 10,.move (.tmp 9),none⟩,⟨some 11,.move (.tmp 0),some (some 10,true)⟩,⟨some 12,.move (.tmp 1),some (some 10,true)⟩,⟨some 13,.call ⟨.builtin .len,#[.tmp 12],#[9]⟩,some (some 10,true)⟩,⟨some 14,.slice 9 (.tmp 11) none (some (.tmp 13)) none,some (some 10,true)⟩,⟨some 15,.move (.tmp 1),some (some 10,true)⟩,⟨some 16,.binOp .eql 9 (.tmp 14) (.tmp 15) 9,some (some 10,true)⟩,⟨some 17,.pick (.tmp 10) (.tmp 16) (.const (.bool false)),none⟩,⟨some 4,.assign (.tmp 17),none⟩]) .ret)
@[simp] theorem x108_s {C e s K} : type_of% (@X_at C e s K _ _ x108.eq_1):=X_at x108.eq_1
def an108 : Ann:=⟨[],[],[]⟩
theorem fi108 : FI Try.prog 108 (cxA an108) x108 [.tmp 4] Try.f108:=fiA Try.func108 mixed
def x99 : XC:=.seq (.reg [⟨some 4,.assign (.const (.bool false)),none⟩]) (.seq (.reg [⟨some 5,.move (.tmp 0),none⟩,⟨some 6,.move (.tmp 1),none⟩,⟨some 7,.call ⟨.value (.func 108),#[.tmp 5,.tmp 6],#[9,9]⟩,none⟩,⟨some 4,.assign (.tmp 7),none⟩]) .ret)
@[simp] theorem x99_s {C e s K} : type_of% (@X_at C e s K _ _ x99.eq_1):=X_at x99.eq_1
def an99 : Ann:=⟨[],[],[]⟩
theorem fi99 : FI Try.prog 99 (cxA an99) x99 [.tmp 4] Try.f99:=fiA Try.func99 mixed
theorem HasPrefix_lite (a w : ByteArray) : CallOK Try.prog 108 [.str a,.str w] [] (.bool (decide (w.size ≤ a.size ∧ a.extract 0 w.size = w))) []:=by
 refine fi108.op ?_
 by_cases h : w.size ≤ a.size
 ·have h' : (w.size : Int) ≤ (a.size : Int) := by omega
  (refine Sg.h ?_;try repeat' ((with_reducible first|refine brA ?_|refine brE fun _=>?_|refine spl ⟨?_,?_⟩<;>intro _)<;>((try simp -implicitDefEqProofs [h,h']);(try simp -implicitDefEqProofs(disch:=first|assumption|(try simp only[lens]);omega -splitDisjunctions) [h,h']))))
 ·have h' : ¬ (w.size : Int) ≤ (a.size : Int) := by omega
  (refine Sg.h ?_;try repeat' ((with_reducible first|refine brA ?_|refine brE fun _=>?_|refine spl ⟨?_,?_⟩<;>intro _)<;>((try simp -implicitDefEqProofs [h,h']);(try simp -implicitDefEqProofs(disch:=first|assumption|(try simp only[lens]);omega -splitDisjunctions) [h,h']))))
theorem HasPrefix_strings (a w : ByteArray) : CallOK Try.prog 99 [.str a,.str w] [] (.bool (decide (w.size ≤ a.size ∧ a.extract 0 w.size = w))) []:=by
 have h:=HasPrefix_lite a w
 generalize decide (w.size ≤ a.size ∧ a.extract 0 w.size = w) = b at *
 refine fi99.op ?_
 (refine Sg.h ?_;try repeat' ((first|(with_reducible first|refine brA ?_|refine brE fun _=>?_|refine spl ⟨?_,?_⟩<;>intro _)|refine clo h ?_)<;>((try simp -implicitDefEqProofs);(try simp -implicitDefEqProofs(disch:=first|assumption|(try simp only[lens]);omega -splitDisjunctions)))))
theorem hp_ext {t w : ByteArray} {i : Nat} (hi : i ≤ t.size) : decide (w.size ≤ (t.extract i t.size).size ∧ (t.extract i t.size).extract 0 w.size = w) = hp t i w:=by
 unfold hp
 rw [decide_eq_decide]
 have hs : (t.extract i t.size).size = t.size - i:=by simp
 rw [hs]
 constructor
 ·rintro ⟨h1,h2⟩
  have h3 : i + w.size ≤ t.size:=by omega
  exact ⟨h3,by rw [← ext_ext t i w.size h3];exact h2⟩
 ·rintro ⟨h1,h2⟩
  exact ⟨by omega,by rw [ext_ext t i w.size h1];exact h2⟩
def mayN (t : ByteArray) (i : Nat) (w : ByteArray) : Nat:=if hp t (bl t i) w = true then bl t i + w.size else bl t i
end Go.Proofs.Ytbimioonhfhflaa
namespace Go.Proofs.Ytbimioonhfhflaa
open Go Go.Pv
theorem bl_bl (t : ByteArray) (i : Nat) : bl t (bl t i) = bl t i:=by
 have key : ∀ r i,t.size - i = r → bl t (bl t i) = bl t i:=by
  intro r
  induction r with
  | zero=>intro i hi;rw [bl_end (t:=t) (i:=i) (by omega),bl_end (by omega)]
  | succ r ih=>
   intro i hi
   have hlt : i < t.size:=by omega
   cases hb : isBl t[i] with
   | false=>rw [bl_stop hlt hb,bl_stop hlt hb]
   | true=>rw [bl_step hlt hb];exact ih (i + 1) (by omega)
 exact key _ i rfl
end Go.Proofs.Ytbimioonhfhflaa
namespace Go.Pv
open Go
theorem tryRecover_normal {fr : Frame} (h : fr.kind = .normal) (cs : List Frame) : tryRecover fr cs = none:=by
 unfold tryRecover
 rw [h]
theorem calls_of_recN {P : Program} {f : FuncId} {fn : Func} {z : Code} {id : Nat} {ops : Array Oper} {o : Oper} {t : Tmp} {args : Array Value} {w : World} {R : Ending → World → Prop}
  (hf : P.funcs[f]? = some fn) (hb : fn.body = some (.seq (.region id ops false) z)) (hops : ops.toList = [o]) (hrun : ∀ a w,(execOp (Act.eval a) o).run P w = .ok .recover w) (hd : o.dst = some t) (hg : o.guard = none)
  (h : z.wp P (bodyPost P fn R) (Act.put { tmps:=args ++ Array.replicate (fn.ntmps - args.size) undef,defers:=[] } (some t) .nilIface) w) : Calls P f args w R:=by
 intro cs
 let b : Frame:={ (default : Frame) with fn:=f,kind:=.normal }
 generalize ha0 : ({ tmps:=args ++ Array.replicate (fn.ntmps - args.size) undef,defers:=[] } : Act) = a0 at *
 have henter : Frame.enter P f args .normal = b.at a0 [.code (.seq (.region id ops false) z)]:=by
  subst ha0
  simp [Frame.enter,Frame.at,hf,hb,b]
 have hsz : ops.size = 1:=by rw [← Array.length_toList,hops];rfl
 have h0 : ops[0]? = some o:=by rw [← Array.getElem?_toList,hops];rfl
 have hw : Region.wanted o (yielded ops a0.tmps) = true:=by simp [Region.wanted,hg]
 have hgo:=stepG_op (P:=P) (b:=b) (k:=[.code z]) (cs:=cs) (w:=w) (rest:=[]) h0 hw
 have hfin : ∀ v,(b.at a0 (.inRegion ops [0] :: [.code z])).finish v = b.at (a0.put o.dst v) (.inRegion ops [] :: [.code z]):=by
  intro v;rw [Frame.finish_at,h0];rfl
 have htr : tryRecover (b.at a0 (.inRegion ops [0] :: [.code z])) cs = none:=tryRecover_normal rfl cs
 have s3 : step P (lone (b.at a0 (.inRegion ops [0] :: [.code z])) cs w) = .next (lone (b.at (a0.put (some t) .nilIface) (.inRegion ops [] :: [.code z])) cs w):=by
  refine step_lone_go ?_
  rw [hgo,← hd,← hfin]
  simp only [Frame.at] at htr ⊢
  simp [stepG.apply,hrun,htr]
 obtain ⟨e,a',w',hq,harr⟩:=h b [] cs
 have hsteps : Steps P (lone (Frame.enter P f args .normal) cs w) (lone (b.at (a0.put (some t) .nilIface) [.code z]) cs w):=by
  rw [henter]
  refine Steps.trans (.one step_seq) (Steps.trans (.one step_region) ?_)
  rw [hsz]
  exact Steps.trans (.one s3) (.one step_region_end)
 replace harr:=Arrives.of_steps hsteps harr
 cases e with
 | normal=>
  obtain ⟨hd,v,hr,hR⟩:=hq
  exact ⟨.returned v,w',_,hR,Steps.trans harr (.one step_end),rfl,rfl,hd,rfl,fn,hf,hr⟩
 | ret=>
  obtain ⟨hd,v,hr,hR⟩:=hq
  obtain ⟨todo,hs⟩:=harr
  exact ⟨.returned v,w',_,hR,hs,rfl,rfl,hd,rfl,fn,hf,hr⟩
 | panic chain=>
  obtain ⟨hd,hR⟩:=hq
  obtain ⟨todo,hs⟩:=harr
  exact ⟨.panicked chain,w',_,hR,hs,rfl,rfl,hd,fn,hf⟩
 | exit id=>exact hq.elim
 | goto l=>exact hq.elim
 | outgrown=>exact ⟨.outgrown,w',b,hq,harr.resolve_left (by simp [b]),rfl,trivial⟩
theorem FR.plain {P : Program} {F : FuncId} {C : Program → Nat → WC} {t : Nat} {x : XC} {rs : List ResultVar} {fn : Func} (i : FR P F C t x rs fn) {args : List PV} {v : PV} {s s' : Store}
  (h : X (C P s.length) x (updA (argsA 0 args) (some t) .niliface) s (.fin rs (gcFin s.length v s'))) (hl : Nat.ble args.length fn.ntmps = true:=by exact rfl) : CallOK P F args s v s':=by
 obtain ⟨⟨A,hA,hc⟩,hf,hx,hrs,hm⟩:=i
 obtain ⟨⟨t',z⟩,hb,hxz⟩:=Option.map_eq_some_iff.1 hx
 simp only [Prod.mk.injEq] at hxz
 obtain ⟨rfl,hxz⟩:=hxz
 rw [hb,Option.map_some,Option.some.injEq,Bool.and_eq_true,decide_eq_true_eq] at hc
 obtain ⟨hc,htn⟩:=hc
 obtain ⟨c,hbody,hsh⟩:=Option.bind_eq_some_iff.1 hb
 unfold recShape at hsh
 split at hsh
 ·rename_i id ops z'
  split at hsh
  ·rename_i o hops
   split at hsh
   ·rename_i cargs0 cT t0 ho hd hg
    cases hsh
    unfold X at h
    rw [hA] at h
    intro pub σ w cargs hbase hargs
    have hER:=er_args (k:=fn.ntmps - cargs.size) hargs (Nat.le_of_ble_eq_true hl) rfl
    have hrun : ∀ a w,(execOp (Act.eval a) o).run P w = .ok .recover w:=fun a w=>by
     simp only [execOp,ho]
     rfl
    refine calls_of_recN hf hbody hops hrun hd hg ?_
    have hput : ER pub σ (frn fn.ntmps) (envOf (updA (argsA 0 args) (some t') .niliface)) (Act.put { tmps:=cargs ++ Array.replicate (fn.ntmps - cargs.size) undef,defers:=[] } (some t') .nilIface):=by
     rw [envOf_updA]
     exact hER.put (some t') (fun u hu=>by cases hu;exact frn_mem htn) .niliface
    refine wp_mono (wexec_ok (N:=frn fn.ntmps) hm z _ s _ hc (hxz ▸ h) ⟨w,pub,σ,dom s σ⟩ pub σ _ w hbase.sig (SR.start hbase) hput) ?_
    rintro x a' w' ⟨E,s0,pub0,σ0,⟨_,e1,s1,hv,hres⟩,hs0,he0⟩
    obtain ⟨pub',σ',hs',he'⟩:=hv _ pub0 σ0 a' w' (frn fn.ntmps) hbase.sig hs0 he0
    have hx : (match x with | .normal | .ret=>True | _=>False) ∧ Sat (xres P (envOf e1) s1 rs) fun vs=>gcFin s.length v s' (retV vs) s1:=by
     cases x <;> first | exact ⟨trivial,hres⟩ | exact hres.elim
    obtain ⟨hx,hres⟩:=hx
    obtain ⟨cv2,hR,p,q,h1,h2⟩:=res_run (m:=s.length) (v:=v) (s':=s') hbase.sig hs' he' (fun v1 s1 h=>gcFin_ret h) (hrs ▸ hres)
    have hgoal : a'.defers = [] ∧ ∃ v0,(results fn a'.tmps).run P w' = .ok v0 w' ∧ ∃ cv pub' σ',Ending.returned v0 = .returned cv ∧ SR ⟨w,pub,σ,dom s σ⟩ pub' σ' s' w' ∧ Rel pub' σ' v cv:=
     ⟨he'.defers,_,hR,_,p,q,rfl,h1,h2⟩
    cases x <;> first | exact hgoal | exact hx.elim
   ·cases hsh
  ·cases hsh
 ·cases hsh
theorem FI.recn {P : Program} {F : FuncId} {C : Program → Nat → WC} {x : XC} {rs : List ResultVar} {fn : Func} (i : FI P F C x rs fn) {args : List PV} {v : PV} {s s' : Store}
  (h : X (C P s.length) x (argsA 0 args) s (.fin rs (gcFin s.length v s'))) (hl : Nat.ble args.length fn.ntmps = true:=by exact rfl) : CallRec P F none args s s':=by
 obtain ⟨⟨A,hA,hc⟩,hf,hx,hrs,hm⟩:=i
 unfold X at h
 rw [hA] at h
 cases hbody : fn.body with
 | none=>rw [hbody] at hx;cases hx
 | some z=>
  rw [hbody] at hx
  have hxz : lt z = x:=Option.some.inj hx
  unfold chkB at hc
  rw [hbody] at hc
  intro pub σ w cargs hbase hargs
  refine callsD_of_wpS hf hbody fun c₀ cs hmode=>?_
  have hER:=er_args (k:=fn.ntmps - cargs.size) hargs (Nat.le_of_ble_eq_true hl) rfl
  refine wpS_of_wp (wp_mono (wexec_ok (N:=frn fn.ntmps) hm z _ s _ hc (hxz ▸ h) ⟨w,pub,σ,dom s σ⟩ pub σ _ w hbase.sig (SR.start hbase) hER) ?_)
  rintro x a' w' ⟨E,s0,pub0,σ0,⟨_,e1,s1,hv,hres⟩,hs0,he0⟩
  obtain ⟨pub',σ',hs',he'⟩:=hv _ pub0 σ0 a' w' (frn fn.ntmps) hbase.sig hs0 he0
  have hx : (match x with | .normal | .ret=>True | _=>False) ∧ Sat (xres P (envOf e1) s1 rs) fun vs=>gcFin s.length v s' (retV vs) s1:=by
   cases x <;> first | exact ⟨trivial,hres⟩ | exact hres.elim
  obtain ⟨hx,hres⟩:=hx
  obtain ⟨cv2,hR,p,q,h1,_⟩:=res_run (m:=s.length) (v:=v) (s':=s') hbase.sig hs' he' (fun v1 s1 h=>gcFin_ret h) (hrs ▸ hres)
  have hgoal : a'.defers = [] ∧ ∃ u',c₀ :: cs = { c₀ with mode:=u' } :: cs ∧ ∃ v,(results fn a'.tmps).run P w' = .ok v w' ∧ (∃ cv,Ending.returned v = .returned cv) ∧ settle u' = .returning ∧ ∃ pub' σ',SR ⟨w,pub,σ,dom s σ⟩ pub' σ' s' w':=
   ⟨he'.defers,.returning,by rw [show (FrameMode.returning) = c₀.mode from hmode.symm],_,hR,⟨_,rfl⟩,rfl,p,q,h1⟩
  cases x <;> first | exact hgoal | exact hx.elim
def dnShape : Code → Option (Tmp × FuncId)
 | .region _ ops false=>match ops.toList with
  | [o]=>match o.op,o.dst,o.guard with
   | .defer ⟨.value (.func g),args,_⟩,none,none=>match args.toList with
    | [.tmp t]=>some (t,g)
    | _=>none
   | _,_,_=>none
  | _=>none
 | _=>none
theorem dnShape_some {r : Code} {t : Tmp} {g : FuncId} (h : dnShape r = some (t,g)) : ∃ id ops o T,r = .region id ops false ∧ ops.toList = [o] ∧ o.op = .defer ⟨.value (.func g),#[.tmp t],T⟩ ∧ o.dst = none ∧ o.guard = none:=by
 cases r <;> simp only [dnShape,reduceCtorEq] at h
 rename_i id ops d
 cases d <;> simp only [reduceCtorEq] at h
 split at h
 ·rename_i o hops
  split at h
  ·rename_i g0 dargs dT h1 h2 h3
   split at h
   ·rename_i t0 hargs
    cases h
    exact ⟨id,ops,o,_,rfl,hops,by rw [h1];congr 2;exact Array.toList_inj.1 hargs,h2,h3⟩
   ·cases h
  ·cases h
 ·cases h
def cutN : Code → Option (List Code × Code × Code)
 | .seq x y=>match dnShape x with
  | some _=>some ([],x,y)
  | none=>(cutN y).map fun p=>(x :: p.1,p.2)
 | _=>none
theorem cutN_wp {P : Program} {Q : Exit → Act → World → Prop} : ∀ (c : Code) (pre : List Code) (r z : Code),cutN c = some (pre,r,z) → ∀ (a : Act) (w : World),wpPre P Q pre (fun a w=>r.wp P (Exit.then (fun a w=>z.wp P Q a w) Q) a w) a w → c.wp P Q a w:=by
 intro c
 induction c with
 | seq x y ihx ihy=>
  intro pre r z h a w hw
  unfold cutN at h
  split at h
  ·cases h
   exact wp_seq hw
  ·obtain ⟨⟨p1,p2⟩,h1,h2⟩ := Option.map_eq_some_iff.1 h
   cases h2
   refine wp_seq (wp_mono hw ?_)
   intro e a w hq
   cases e <;> first | exact ihy p1 r z h1 a w hq | exact hq
 | _=>intro pre r z h;simp [cutN] at h
def DRecN (P : Program) (g : FuncId) (y : PV) (r : Option Value) (e : AE) (s : Store) (rs : List ResultVar) (f : PV → Store → Prop) : Prop:=
 ∃ s2,Enters P g ∧ CallRec P g r [y] s s2 ∧ Sat (xres P (envOf e) s2 rs) fun vs=>f (retV vs) s2
def wdn (P : Program) (g : FuncId) (t : Nat) (rs : List ResultVar) (f : PV → Store → Prop) : Exit → AE → Store → Prop:=fun x e s=>match x with
 | .normal | .ret=>DRecN P g (envOf e t) none e s rs f
 | .panic [⟨v,false,false⟩]=>DRecN P g (envOf e t) (some v) e s rs f
 | _=>False
section
variable {P : Program} {g : FuncId} {t : Nat} {rs : List ResultVar} {f : PV → Store → Prop} {e : AE} {s : Store}
@[simp] theorem wdn_normal : wdn P g t rs f .normal e s = DRecN P g (envOf e t) none e s rs f:=rfl
@[simp] theorem wdn_ret : wdn P g t rs f .ret e s = DRecN P g (envOf e t) none e s rs f:=rfl
@[simp] theorem wdn_pan {v : Value} : wdn P g t rs f (pan1 v) e s = DRecN P g (envOf e t) (some v) e s rs f:=rfl
theorem DRecN.sub {y : PV} {r : Option Value} {s2 : Store} [h : EnT P g] (ρ : List Nat) (hc : CallRec P g r [renN ρ 4 y] (liveS ρ s ρ) s2) (hk : FN (xres P (envOf e) (backS ρ s s2) rs) f (backS ρ s s2))
  (hnd : ρ.Nodup:=by simp) (hin : ∀ i ∈ ρ,i < s.length:=by simp) (hlen : ρ.length ≤ s2.length:=by simp) : DRecN P g y r e s rs f:=by
 refine ⟨_,h.h,CallRec.sub ρ hnd hin hlen ?_,hk⟩
 have : ∀ L : List Nat,liveS ρ s L = L.map fun i=>renObj ρ ((s[i]?).getD .dead):=by
  intro L;induction L with
  | nil=>rfl
  | cons t r ih=>rw [List.map_cons,← ih];rfl
 rw [← this];exact hc
end
structure FDN (P : Program) (F : FuncId) (C : Program → Nat → WC) (xs : List XC) (t : Nat) (g : FuncId) (x : XC) (rs : List ResultVar) (fn : Func) : Prop where
 A : ∃ A,(∀ P m,C P m = ⟨P,m,A⟩) ∧ ((fn.body.bind cutN).map fun p=>p.1.all (chkC fn.ntmps A) && chkC ⟨fn.ntmps,[t]⟩ A p.2.2 && decide (t < fn.ntmps)) = some true
 f : P.funcs[F]? = some fn
 x : ((fn.body.bind cutN).bind fun p=>(dnShape p.2.1).map fun q=>(p.1.map lt,q.1,q.2,lt p.2.2)) = some (xs,t,g,x)
 r : fn.results.toList = rs
 m : P.follows .mixedOrders = true
theorem FDN.ops {P : Program} {F : FuncId} {C : Program → Nat → WC} {xs : List XC} {t : Nat} {g : FuncId} {x : XC} {rs : List ResultVar} {fn : Func} (i : FDN P F C xs t g x rs fn) {args : List PV} {v : PV} {s s' : Store} (fin : PV → Store → Prop) (hfin : ∀ v1 s1,fin v1 s1 → RetView s.length v1 s1 v s')
  (h : XL (C P s.length) (.fin rs fin) xs (fun e s1=>X (C P s.length) x e s1 (.fany (wdn P g t rs fin))) (argsA 0 args) s) (hl : Nat.ble args.length fn.ntmps = true:=by exact rfl) : CallOK P F args s v s':=by
 obtain ⟨⟨A,hA,hc⟩,hf,hx,hrs,hm⟩:=i
 obtain ⟨⟨pre,r,z⟩,hb,hx2⟩:=Option.bind_eq_some_iff.1 hx
 obtain ⟨⟨t',g'⟩,hsh,hx3⟩:=Option.map_eq_some_iff.1 hx2
 simp only [Prod.mk.injEq] at hx3
 obtain ⟨hx4,rfl,rfl,hx6⟩:=hx3
 rw [hb,Option.map_some,Option.some.injEq,Bool.and_eq_true,Bool.and_eq_true,decide_eq_true_eq] at hc
 obtain ⟨⟨hpre,hz⟩,htn⟩:=hc
 obtain ⟨c,hbody,hcut⟩:=Option.bind_eq_some_iff.1 hb
 rw [hA] at h
 subst hx4 hx6
 intro pub σ w cargs hbase hargs
 refine calls_of_wp_defers hf hbody ?_
 refine cutN_wp c pre r z hcut _ _ ?_
 have hER:=er_args (k:=fn.ntmps - cargs.size) hargs (Nat.le_of_ble_eq_true hl) rfl
 have leave : ∀ (e : AE) (s1 : Store) (pub' : PHeap) (σ' : Sig) (a' : Act) (w' : World) (N : FrN),(Sat (xres P (envOf e) s1 rs) fun vs => fin (retV vs) s1) → SR ⟨w,pub,σ,dom s σ⟩ pub' σ' s1 w' → ER pub' σ' N (envOf e) a' →
   Leaves P fn a'.tmps (fun e w'=>∃ cv pub' σ',e = .returned cv ∧ SR ⟨w,pub,σ,dom s σ⟩ pub' σ' s' w' ∧ Rel pub' σ' v cv) [] .returning w':=by
  intro e s1 pub' σ' a' w' N hres hs' he'
  obtain ⟨cv2,hR,p,q,h1,h2⟩:=res_run (m:=s.length) (v:=v) (s':=s') hbase.sig hs' he' hfin (hrs ▸ hres)
  exact ⟨cv2,hR,cv2,p,q,rfl,h1,h2⟩
 have key : ∀ (l : List Code) (e : AE) (s0 : Store) (pub0 : PHeap) (σ0 : Sig) (a0 : Act) (w0 : World),l.all (chkC fn.ntmps A) = true →
   XL ⟨P,s.length,A⟩ (.fin rs fin) (l.map lt) (fun e s1=>X ⟨P,s.length,A⟩ (lt z) e s1 (.fany (wdn P g' t' rs fin))) e s0 → SR ⟨w,pub,σ,dom s σ⟩ pub0 σ0 s0 w0 → ER pub0 σ0 (frn fn.ntmps) (envOf e) a0 →
   wpPre P (bodyPostD P fn fun e w'=>∃ cv pub' σ',e = .returned cv ∧ SR ⟨w,pub,σ,dom s σ⟩ pub' σ' s' w' ∧ Rel pub' σ' v cv) l (fun a w_1=>r.wp P (Exit.then (fun a w_2=>z.wp P (bodyPostD P fn fun e w'=>∃ cv pub' σ',e = .returned cv ∧ SR ⟨w,pub,σ,dom s σ⟩ pub' σ' s' w' ∧ Rel pub' σ' v cv) a w_2) (bodyPostD P fn fun e w'=>∃ cv pub' σ',e = .returned cv ∧ SR ⟨w,pub,σ,dom s σ⟩ pub' σ' s' w' ∧ Rel pub' σ' v cv)) a w_1) a0 w0:=by
  intro l
  induction l with
  | nil=>
   intro e s0 pub0 σ0 a0 w0 _ h hs he
   replace h : X ⟨P,s.length,A⟩ (lt z) e s0 (.fany (wdn P g' t' rs fin)):=h
   show r.wp P _ a0 w0
   obtain ⟨id,ops,o1,dT,rfl,hops,h1,h2,h3⟩:=dnShape_some hsh
   refine wp_region ?_
   have hsz : ops.size = 1:=by rw [← Array.length_toList,hops];rfl
   have e0 : ops[0]? = some o1:=by rw [← Array.getElem?_toList,hops];rfl
   rw [hsz]
   simp only [List.range_succ,List.range_zero,List.nil_append,wpOps,e0]
   have hw1 : ∀ y,Region.wanted o1 y = true:=fun y=>by simp [Region.wanted,h3]
   rw [if_pos (hw1 _)]
   refine .inl ?_
   obtain ⟨fv,hfv⟩ : ∃ fv,a0.tmps.getD t' undef = fv:=⟨_,rfl⟩
   have hfr : Rel pub0 σ0 (envOf e t') fv:=hfv ▸ he.rel t'
   have hrun1 : (execOp a0.eval o1).run P w0 = .ok (.defer { target:=.fn (.func g') #[],args:=#[fv] }) w0:=by
    have hev : a0.eval (.tmp t') = fv:=hfv
    simp only [execOp,h1,Go.resolve]
    have : a0.eval (.func g') = .func (.func g') #[] #[]:=rfl
    rw [this]
    simp [Deferred.ofValue,hev]
   unfold Oper.wp
   rw [hrun1]
   simp only [Oper.upon,h2,Act.put]
   show z.wp P _ _ _
   have hdef : a0.defers = []:=he.defers
   have hN : ER pub0 σ0 ⟨fn.ntmps,[{ target:=.fn (.func g') #[],args:=#[fv] }],[(t',fv)]⟩ (envOf e) { a0 with defers:={ target:=.fn (.func g') #[],args:=#[fv] } :: a0.defers }:=
    ⟨he.size,by rw [hdef],fun u v hv=>by simp only [List.mem_singleton,Prod.mk.injEq] at hv;obtain ⟨rfl,rfl⟩:=hv;exact hfv,he.rel⟩
   refine wp_mono (wexec_ok (N:=⟨fn.ntmps,[{ target:=.fn (.func g') #[],args:=#[fv] }],[(t',fv)]⟩) hm z _ s0 _ hz h ⟨w,pub,σ,dom s σ⟩ pub0 σ0 _ w0 hbase.sig hs hN) ?_
   rintro x a' w' ⟨E,s2,pub2,σ2,⟨_,e2,s3,hv,hres⟩,hs2,he2⟩
   obtain ⟨pub',σ',hs',he'⟩:=hv _ pub2 σ2 a' w' _ hbase.sig hs2 he2
   have hrec : ∀ r0,DRecN P g' (envOf e2 t') r0 e2 s3 rs fin → Leaves P fn a'.tmps (fun e w'=>∃ cv pub' σ',e = .returned cv ∧ SR ⟨w,pub,σ,dom s σ⟩ pub' σ' s' w' ∧ Rel pub' σ' v cv) a'.defers (recMode r0) w':=by
    rintro r0 ⟨s4,hen,hcr,hfinal⟩
    rw [he'.defers]
    have hrel:=he'.rel t'
    rw [he'.kept t' fv (by simp)] at hrel
    refine leaves_cons (by cases r0 <;> simp [recMode]) (f:=g') (args:=#[fv]) (by simp only [invoke];rw [Array.append_empty];exact hen _ w') ?_
    refine CallsD.mono (hcr pub' σ' w' _ hs'.toBase ⟨rfl,fun j x y hx hy=>?_⟩) ?_
    ·cases j with
     | zero=>simp at hx hy;subst hx hy;simpa using hrel
     | succ j=>simp at hx
    rintro en u' w5 ⟨⟨cv,rfl⟩,hset,pub5,σ5,hs5⟩
    show Leaves P fn a'.tmps _ [] (settle u') w5
    rw [hset]
    exact leave e2 s4 pub5 σ5 a' w5 _ hfinal (hs'.trans hs5) (he'.mono hs5.ple hs5.sle)
   have hres2 : wdn P g' t' rs fin x e2 s3:=hres
   unfold wdn at hres2
   split at hres2
   ·exact hrec none hres2
   ·exact hrec none hres2
   ·exact hrec (some _) hres2
   ·exact hres2.elim
  | cons x l ih=>
   intro e s0 pub0 σ0 a0 w0 hl h hs he
   rw [List.all_cons,Bool.and_eq_true] at hl
   replace h : X ⟨P,s.length,A⟩ (lt x) e s0 (.andk (XL ⟨P,s.length,A⟩ (.fin rs fin) (l.map lt) (fun e s1=>X ⟨P,s.length,A⟩ (lt z) e s1 (.fany (wdn P g' t' rs fin)))) (.fin rs fin)):=h
   show x.wp P _ a0 w0
   refine wp_mono (wexec_ok (N:=frn fn.ntmps) hm x _ s0 _ hl.1 h ⟨w,pub,σ,dom s σ⟩ pub0 σ0 _ w0 hbase.sig hs he) ?_
   rintro y a' w' ⟨E,s2,pub2,σ2,⟨_,e2,s3,hv,hres⟩,hs2,he2⟩
   obtain ⟨pub',σ',hs',he'⟩:=hv _ pub2 σ2 a' w' _ hbase.sig hs2 he2
   cases y with
   | normal=>exact ih e2 s3 pub' σ' a' w' hl.2 hres hs' he'
   | ret=>
    show Leaves P fn a'.tmps _ a'.defers .returning w'
    rw [he'.defers]
    exact leave e2 s3 pub' σ' a' w' _ hres hs' he'
   | exit i=>exact hres.elim
   | goto l=>exact hres.elim
   | panic ch=>exact hres.elim
   | outgrown=>exact hres.elim
 exact key pre (argsA 0 args) s pub σ _ w hpre h (SR.start hbase) hER
theorem fdnA {P : Program} {F : FuncId} {xs : List XC} {t : Nat} {g : FuncId} {x : XC} {rs : List ResultVar} {fn : Func} {A : Ann} (hf : P.funcs[F]? = some fn) (hm : P.follows .mixedOrders = true)
  (hc : ((fn.body.bind cutN).map fun p=>p.1.all (chkC fn.ntmps A) && chkC ⟨fn.ntmps,[t]⟩ A p.2.2 && decide (t < fn.ntmps)) = some true)
  (hx : ((fn.body.bind cutN).bind fun p=>(dnShape p.2.1).map fun q=>(p.1.map lt,q.1,q.2,lt p.2.2)) = some (xs,t,g,x)) (hr : fn.results.toList = rs) : FDN P F (cxA A) xs t g x rs fn:=
 ⟨⟨A,fun _ _=>rfl,hc⟩,hf,hx,hr,hm⟩
theorem FDN.os {P : Program} {F : FuncId} {C : Program → Nat → WC} {xs : List XC} {t : Nat} {g : FuncId} {x : XC} {rs : List ResultVar} {fn : Func} (i : FDN P F C xs t g x rs fn) {args : List PV} {v : PV}
  (h : XL (C P 0) (.fin rs fun v1 s1=>softV (deref s1 6 v1) = v) xs (fun e s1=>X (C P 0) x e s1 (.fany (wdn P g t rs fun v1 s1=>softV (deref s1 6 v1) = v))) (argsA 0 args) []) (hl : Nat.ble args.length fn.ntmps = true:=by exact rfl) : CallOK P F args [] v []:=
 FDN.ops i _ (fun v1 s1 h=>RetView.softV h) h hl
end Go.Pv
