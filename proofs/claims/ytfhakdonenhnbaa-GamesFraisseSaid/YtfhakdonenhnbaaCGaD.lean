import Derived.Test.YtfhakdonenhnbaaCGaC
set_option linter.unusedVariables false
set_option linter.unusedSimpArgs false
set_option maxRecDepth 100000
set_option maxHeartbeats 4000000
namespace Go.Proofs.Ytfhakdonenhnbaa
open Go Go.Pv
theorem padI_set {l : List Nat} {x : Nat} (h : l.length < 4) : (padI l).set l.length (x : Int) = padI (l ++ [x]):=by
 unfold padI
 rw [← List.map_set (f:=fun (n : Nat)=>(n : Int)),List.set_append,if_neg (by omega),Nat.sub_self,List.length_append]
 obtain ⟨k,hk⟩ : ∃ k,4 - l.length = k + 1:=⟨3 - l.length,by omega⟩
 rw [hk,show 4 - (l.length + [x].length) = k by simp;omega,List.replicate_succ,List.set_cons_zero,List.append_assoc];rfl
theorem addC_pos {xs ys : List Nat} {x y : Nat} (hx : xs.length < 4) (hy : ys.length = xs.length) : addC (posC xs ys) xs.length (x : Int) (y : Int) = posC (xs ++ [x]) (ys ++ [y]):=by
 have h1:=padI_len (l:=xs) (by omega)
 have p1:=padI_set (l:=xs) (x:=x) hx
 have p2:=padI_set (l:=ys) (x:=y) (by omega)
 unfold addC posC
 rw [Nat.add_comm 1,List.set_cons_succ,List.set_append,if_pos (by omega),p1,show 5 + xs.length = (4 + xs.length) + 1 by omega,List.set_cons_succ]
 have h2:=padI_len (l:=xs ++ [x]) (by simp;omega)
 rw [List.set_append,if_neg (by omega),h2,Nat.add_sub_cancel_left,← hy,p2,List.set_cons_zero]
 simp [hy]
theorem posC_len {xs ys : List Nat} (hx : xs.length ≤ 4) (hy : ys.length = xs.length) : (posC xs ys).length = 9:=by simp [posC,padI_len hx,padI_len (l:=ys) (by omega)]
def stB (A B : Nat) (P Q : List Pd) (es : Mem) : Store:=[.rows 7 [brdC A B P Q (.mapv 1)],.map (memP es)]
attribute [simp] stB
section
variable {C : WC} {f : Operand} {args : Array Operand} {d : Option Tmp} {fid : FuncId} {vs vs' : List PV} {e : AE} {A B : Nat} {P Q : List Pd} {c : List Int} {x r : Nat} {es es' : Mem} {K : KS} {ops : List LOp}
theorem liveB : liveS [4,5] (stG A B P Q c x r es) [4,5] = stB A B P Q es:=by simp [liveS]
theorem cd_sub [EnT C.P fid] {s s2 : Store} {v : PV} (ρ : List Nat) (hc : CallOK C.P fid (vs.map (renN ρ 4)) (liveS ρ s ρ) v s2) (hk : O C .dr ops (updA e d (upN (ρ ++ List.range' s.length (s2.length - ρ.length)) 4 v)) (backS ρ s s2) K)
  (hnd : ρ.Nodup:=by simp) (hin : ∀ i ∈ ρ,i < s.length:=by simp) (hlen : ρ.length ≤ s2.length:=by simp) : CD C d (some (fid,vs)) ops e s K:=by
 refine .of (CallOK.sub ρ hnd hin hlen ?_) hk
 have : ∀ L : List Nat,liveS ρ s L = L.map fun i=>renObj ρ ((s[i]?).getD .dead):=by
  intro L;induction L with
  | nil=>rfl
  | cons t r ih=>rw [List.map_cons,← ih];rfl
 rw [← this];exact hc
theorem cd_B [EnT C.P fid] {v : PV} (hc : CallOK C.P fid vs' (stB A B P Q es) v (stB A B P Q es')) (hk : O C .dr ops (updA e d (upN [4,5] 4 v)) (backS [4,5] (stG A B P Q c x r es) (stB A B P Q es')) K) (hv : vs.map (renN [4,5] 4) = vs':=by simp) : CD C d (some (fid,vs)) ops e (stG A B P Q c x r es) K:=by
 refine cd_sub [4,5] (s2:=stB A B P Q es') (v:=v) (by rw [hv,liveB];exact hc) ?_
 exact hk
end
def x28 : XC:=.seq (.reg [⟨some 6,.assign (.const (.bool false)),none⟩]) (.seq (.drawn 1 [⟨some 7,.load 46 (.tmp 1),none⟩,⟨some 8,.load 53 (.tmp 2),none⟩,⟨some 9,.load 3 (.tmp 3),none⟩,⟨some 10,.move (.tmp 0),none⟩,⟨some 11,.call ⟨.value (.func 29),#[.tmp 8,.tmp 9,.tmp 10],#[53,3,3]⟩,none⟩,⟨some 12,.load 3 (.tmp 4),none⟩,⟨some 13,.binOp .sub 3 (.tmp 12) (.const (.int .i64 1)) 3,none⟩,⟨some 14,.call ⟨.value (.func 17),#[.tmp 7,.tmp 11,.tmp 13],#[46,53,3]⟩,none⟩,⟨some 6,.assign (.tmp 14),none⟩]) .ret)
@[simp] theorem x28_s {C e s K} : type_of% (@X_at C e s K _ _ x28.eq_1):=X_at x28.eq_1
def an28 : Ann:=⟨[(1,.mix 7)],[],[]⟩
@[simp] theorem an28_a : an28.clsOf 1 = .mix 7 ∧ an28.frzOf 1 = []:=⟨rfl,rfl⟩
theorem fi28 : FI Try.prog 28 (cxA an28) x28 [.tmp 6] Try.f28:=fiA Try.func28 mixed
theorem wins1_games (A B : Nat) (P Q : List Pd) (xs ys : List Nat) (hx : xs.length < 4) (hy : ys.length = xs.length) (x y r : Nat) (es : Mem) (q : Bool × Mem) (hw : CallOK Try.prog 17 [.ptr 0 0 0,.agg (ci (posC (xs ++ [x]) (ys ++ [y]))),.int .i64 (r : Int)] (stB A B P Q es) (.bool q.1) (stB A B P Q q.2)) (hr : r < 100) :
  CallOK Try.prog 28 [.int .i64 (y : Int),.ptr 0 0 0,.ptr 1 0 0,.ptr 2 0 0,.ptr 3 0 0] (stG A B P Q (posC xs ys) x (r + 1) es) (.bool q.1) (stG A B P Q (posC xs ys) x (r + 1) q.2):=by
 have hc:=posC_len (by omega) hy
 have hm:=more_games (posC xs ys) hc xs.length rfl hx (x : Int) (y : Int)
 rw [addC_pos hx hy] at hm
 generalize posC (xs ++ [x]) (ys ++ [y]) = c2 at *
 generalize posC xs ys = c1 at *
 have ht : (ci c1).take 9 = ci c1:=List.take_of_length_le (by simp [hc])
 refine fi28.og ?_
 (refine Sg.h ?_;try repeat' ((first|(with_reducible first|refine brA ?_|refine brE fun _=>?_|refine spl ⟨?_,?_⟩<;>intro _)|refine clo hm ?_)<;>((try simp -implicitDefEqProofs [hc,ht]);(try simp -implicitDefEqProofs(disch:=first|assumption|(try simp only[lens]);omega -splitDisjunctions) [hc,ht]))))
 refine cd_B hw ?_
 (refine Sg.h ?_;try repeat' ((with_reducible first|refine brA ?_|refine brE fun _=>?_|refine spl ⟨?_,?_⟩<;>intro _)<;>((try simp -implicitDefEqProofs);(try simp -implicitDefEqProofs(disch:=first|assumption|(try simp only[lens]);omega -splitDisjunctions)))))
def x30 : XC:=.seq (.reg [⟨some 6,.assign (.const (.bool false)),none⟩]) (.seq (.drawn 1 [⟨some 7,.load 46 (.tmp 1),none⟩,⟨some 8,.load 53 (.tmp 2),none⟩,⟨some 9,.move (.tmp 0),none⟩,⟨some 10,.load 3 (.tmp 3),none⟩,⟨some 11,.call ⟨.value (.func 29),#[.tmp 8,.tmp 9,.tmp 10],#[53,3,3]⟩,none⟩,⟨some 12,.load 3 (.tmp 4),none⟩,⟨some 13,.binOp .sub 3 (.tmp 12) (.const (.int .i64 1)) 3,none⟩,⟨some 14,.call ⟨.value (.func 17),#[.tmp 7,.tmp 11,.tmp 13],#[46,53,3]⟩,none⟩,⟨some 6,.assign (.tmp 14),none⟩]) .ret)
@[simp] theorem x30_s {C e s K} : type_of% (@X_at C e s K _ _ x30.eq_1):=X_at x30.eq_1
def an30 : Ann:=⟨[(1,.mix 7)],[],[]⟩
@[simp] theorem an30_a : an30.clsOf 1 = .mix 7 ∧ an30.frzOf 1 = []:=⟨rfl,rfl⟩
theorem fi30 : FI Try.prog 30 (cxA an30) x30 [.tmp 6] Try.f30:=fiA Try.func30 mixed
theorem wins2_games (A B : Nat) (P Q : List Pd) (xs ys : List Nat) (hx : xs.length < 4) (hy : ys.length = xs.length) (x y r : Nat) (es : Mem) (q : Bool × Mem) (hw : CallOK Try.prog 17 [.ptr 0 0 0,.agg (ci (posC (xs ++ [x]) (ys ++ [y]))),.int .i64 (r : Int)] (stB A B P Q es) (.bool q.1) (stB A B P Q q.2)) (hr : r < 100) :
  CallOK Try.prog 30 [.int .i64 (x : Int),.ptr 0 0 0,.ptr 1 0 0,.ptr 2 0 0,.ptr 3 0 0] (stG A B P Q (posC xs ys) y (r + 1) es) (.bool q.1) (stG A B P Q (posC xs ys) y (r + 1) q.2):=by
 have hc:=posC_len (by omega) hy
 have hm:=more_games (posC xs ys) hc xs.length rfl hx (x : Int) (y : Int)
 rw [addC_pos hx hy] at hm
 generalize posC (xs ++ [x]) (ys ++ [y]) = c2 at *
 generalize posC xs ys = c1 at *
 have ht : (ci c1).take 9 = ci c1:=List.take_of_length_le (by simp [hc])
 refine fi30.og ?_
 (refine Sg.h ?_;try repeat' ((first|(with_reducible first|refine brA ?_|refine brE fun _=>?_|refine spl ⟨?_,?_⟩<;>intro _)|refine clo hm ?_)<;>((try simp -implicitDefEqProofs [hc,ht]);(try simp -implicitDefEqProofs(disch:=first|assumption|(try simp only[lens]);omega -splitDisjunctions) [hc,ht]))))
 refine cd_B hw ?_
 (refine Sg.h ?_;try repeat' ((with_reducible first|refine brA ?_|refine brE fun _=>?_|refine spl ⟨?_,?_⟩<;>intro _)<;>((try simp -implicitDefEqProofs);(try simp -implicitDefEqProofs(disch:=first|assumption|(try simp only[lens]);omega -splitDisjunctions)))))
section
variable {C : WC} {f : Operand} {args : Array Operand} {d : Option Tmp} {fid : FuncId} {vs vs' : List PV} {e : AE} {A B : Nat} {P Q : List Pd} {c : List Int} {x r : Nat} {es es' : Mem} {K : KS} {ops : List LOp} {k : List PV}
def stW (A B : Nat) (P Q : List Pd) (c : List Int) (r : Nat) (k : List PV) (x : Nat) (es : Mem) : Store:=stB A B P Q es ++ [.rows 1 [[.ptr 0 0 0]],.rows 9 [ci c],.rows 1 [[.int .i64 (r : Int)]],.rows 18 [k],.rows 1 [[.int .i64 (x : Int)]]]
attribute [simp] stW
theorem liveW2 : liveS [2,3,6,4,0,1] (stW A B P Q c r k x es) [2,3,6,4,0,1] = stG A B P Q c x r es:=by simp [liveS]
theorem cl_W [EnT C.P fid] {v : PV} (hc : CallOK C.P fid vs' (stG A B P Q c x r es) v (stG A B P Q c x r es')) (hk : O C .pl ops (updA e d (upN [2,3,6,4,0,1] 4 v)) (backS [2,3,6,4,0,1] (stW A B P Q c r k x es) (stG A B P Q c x r es')) K) (hv : vs.map (renN [2,3,6,4,0,1] 4) = vs':=by simp) : CL C f args d (some (fid,vs)) ops e (stW A B P Q c r k x es) K:=by
 refine CL.sub [2,3,6,4,0,1] (s2:=stG A B P Q c x r es') (v:=v) (by rw [hv,liveW2];exact hc) ?_
 exact hk
end
def x17_T3 : XC:=.seq (.drawn 20 [⟨some 74,.load 46 (.tmp 3),none⟩,⟨some 75,.nilCheck (.tmp 74),none⟩,⟨some 76,.fieldAddr 49 (.tmp 75) 2,none⟩,⟨some 77,.load 47 (.tmp 76),none⟩,⟨some 78,.load 69 (.tmp 7),none⟩,⟨some 79,.move (.tmp 10),none⟩,⟨none,.mapUpdate 47 (.tmp 77) (.tmp 78) (.tmp 79),none⟩]) (.seq (.reg [⟨some 80,.move (.tmp 10),none⟩,⟨some 6,.assign (.tmp 80),none⟩]) .ret)
def x17_L2 : XC:=.seq (.reg [⟨some 60,.binOp .lss 3 (.tmp 59) (.tmp 58) 3,none⟩]) (.seq (.cond (.tmp 60) .skip (.exit 2)) (.seq (.block 3 (.seq (.reg [⟨some 61,.move (.tmp 59),none⟩,⟨some 12,.alloc 3,none⟩,⟨none,.store 3 (.tmp 12) (.tmp 61),none⟩]) (.reg [⟨some 62,.move (.tmp 10),none⟩,⟨some 63,.move (.tmp 62),none⟩,⟨some 64,.load 46 (.tmp 3),some (some 63,true)⟩,⟨some 65,.nilCheck (.tmp 64),some (some 63,true)⟩,⟨some 66,.fieldAddr 49 (.tmp 65) 0,some (some 63,true)⟩,⟨some 67,.fieldAddr 25 (.tmp 66) 0,some (some 63,true)⟩,⟨some 68,.load 3 (.tmp 67),some (some 63,true)⟩,⟨some 69,.call ⟨.value (.func 27),#[.tmp 68],#[3]⟩,some (some 63,true)⟩,⟨some 70,.makeFunc (.func 30) #[] #[.tmp 3,.tmp 4,.tmp 12,.tmp 5],some (some 63,true)⟩,⟨some 71,.call ⟨.value (.func 26),#[.tmp 69,.tmp 70],#[58,74]⟩,some (some 63,true)⟩,⟨some 72,.pick (.tmp 63) (.tmp 71) (.const (.bool false)),none⟩,⟨some 10,.assign (.tmp 72),none⟩]))) (.reg [⟨some 73,.binOp .add 3 (.tmp 59) (.const (.int .i64 1)) 3,none⟩,⟨some 59,.move (.tmp 73),none⟩])))
def x17_T1 : XC:=.seq (.seq (.reg [⟨some 54,.load 46 (.tmp 3),none⟩,⟨some 55,.nilCheck (.tmp 54),none⟩,⟨some 56,.fieldAddr 49 (.tmp 55) 1,none⟩,⟨some 57,.fieldAddr 25 (.tmp 56) 0,none⟩,⟨some 58,.load 3 (.tmp 57),none⟩,⟨some 59,.move (.const (.int .i64 0)),none⟩]) (.bloop 2 x17_L2)) (x17_T3)
def x17_L0 : XC:=.seq (.reg [⟨some 40,.binOp .lss 3 (.tmp 39) (.tmp 38) 3,none⟩]) (.seq (.cond (.tmp 40) .skip (.exit 0)) (.seq (.block 1 (.seq (.reg [⟨some 41,.move (.tmp 39),none⟩,⟨some 11,.alloc 3,none⟩,⟨none,.store 3 (.tmp 11) (.tmp 41),none⟩]) (.reg [⟨some 42,.move (.tmp 10),none⟩,⟨some 43,.move (.tmp 42),none⟩,⟨some 44,.load 46 (.tmp 3),some (some 43,true)⟩,⟨some 45,.nilCheck (.tmp 44),some (some 43,true)⟩,⟨some 46,.fieldAddr 49 (.tmp 45) 1,some (some 43,true)⟩,⟨some 47,.fieldAddr 25 (.tmp 46) 0,some (some 43,true)⟩,⟨some 48,.load 3 (.tmp 47),some (some 43,true)⟩,⟨some 49,.call ⟨.value (.func 27),#[.tmp 48],#[3]⟩,some (some 43,true)⟩,⟨some 50,.makeFunc (.func 28) #[] #[.tmp 3,.tmp 4,.tmp 11,.tmp 5],some (some 43,true)⟩,⟨some 51,.call ⟨.value (.func 26),#[.tmp 49,.tmp 50],#[58,74]⟩,some (some 43,true)⟩,⟨some 52,.pick (.tmp 43) (.tmp 51) (.const (.bool false)),none⟩,⟨some 10,.assign (.tmp 52),none⟩]))) (.reg [⟨some 53,.binOp .add 3 (.tmp 39) (.const (.int .i64 1)) 3,none⟩,⟨some 39,.move (.tmp 53),none⟩])))
def x17 : XC:=.seq (.reg [⟨some 3,.box 46 (.tmp 0),none⟩,⟨some 4,.box 53 (.tmp 1),none⟩,⟨some 5,.box 3 (.tmp 2),none⟩,⟨some 6,.assign (.const (.bool false)),none⟩]) (.seq (.seq (.reg [⟨some 13,.load 46 (.tmp 3),none⟩,⟨some 14,.load 53 (.tmp 4),none⟩,⟨some 15,.call ⟨.value (.func 25),#[.tmp 13,.tmp 14],#[46,53]⟩,none⟩,⟨some 16,.unOp .not 4 (.tmp 15),none⟩]) (.cond (.tmp 16) (.seq (.reg [⟨some 6,.assign (.const (.bool false)),none⟩]) .ret) .skip)) (.seq (.seq (.reg [⟨some 17,.load 3 (.tmp 5),none⟩,⟨some 18,.binOp .eql 3 (.tmp 17) (.const (.int .i64 0)) 3,none⟩]) (.cond (.tmp 18) (.seq (.reg [⟨some 6,.assign (.const (.bool true)),none⟩]) .ret) .skip)) (.seq (.reg [⟨some 19,.load 53 (.tmp 4),none⟩,⟨some 20,.load 3 (.tmp 5),none⟩,⟨some 21,.build 53 #[(0,.tmp 20)],none⟩,⟨some 22,.build 69 #[(0,.tmp 19),(1,.tmp 21)],none⟩,⟨some 7,.alloc 69,none⟩,⟨none,.store 69 (.tmp 7) (.tmp 22),none⟩]) (.seq (.seq (.drawn 6 [⟨some 24,.load 46 (.tmp 3),none⟩,⟨some 25,.nilCheck (.tmp 24),none⟩,⟨some 26,.fieldAddr 49 (.tmp 25) 2,none⟩,⟨some 27,.load 47 (.tmp 26),none⟩,⟨some 28,.load 69 (.tmp 7),none⟩,⟨some 29,.lookup 47 (.tmp 27) (.tmp 28) true,none⟩,⟨some 23,.move (.tmp 29),none⟩,⟨some 30,.extract (.tmp 23) 0,none⟩,⟨some 31,.extract (.tmp 23) 1,none⟩,⟨some 8,.assign (.tmp 30),none⟩,⟨some 9,.assign (.tmp 31),none⟩]) (.seq (.reg [⟨some 32,.move (.tmp 9),none⟩]) (.cond (.tmp 32) (.seq (.reg [⟨some 33,.move (.tmp 8),none⟩,⟨some 6,.assign (.tmp 33),none⟩]) .ret) .skip))) (.seq (.reg [⟨some 10,.assign (.const (.bool true)),none⟩]) (.seq (.seq (.reg [⟨some 34,.load 46 (.tmp 3),none⟩,⟨some 35,.nilCheck (.tmp 34),none⟩,⟨some 36,.fieldAddr 49 (.tmp 35) 0,none⟩,⟨some 37,.fieldAddr 25 (.tmp 36) 0,none⟩,⟨some 38,.load 3 (.tmp 37),none⟩,⟨some 39,.move (.const (.int .i64 0)),none⟩]) (.bloop 0 x17_L0)) (x17_T1)))))))
@[simp] theorem x17_s {C e s K} : type_of% (@X_at C e s K _ _ x17_T3.eq_1) ∧ type_of% (@X_at C e s K _ _ x17_L2.eq_1) ∧ type_of% (@X_at C e s K _ _ x17_T1.eq_1) ∧ type_of% (@X_at C e s K _ _ x17_L0.eq_1) ∧ type_of% (@X_at C e s K _ _ x17.eq_1):=⟨X_at x17_T3.eq_1,X_at x17_L2.eq_1,X_at x17_T1.eq_1,X_at x17_L0.eq_1,X_at x17.eq_1⟩
def an17 : Ann:=⟨[],[(2,[],[3,4,5,7,10,58,59],[3,7,10]),(0,[],[3,4,5,7,10,38,39],[3,4,5,7,10])],[]⟩
@[simp] theorem an17_a : an17.clsOf 6 = .draw ∧ an17.clsOf 20 = .draw ∧ an17.frzOf 6 = [] ∧ an17.frzOf 20 = [] ∧ an17.loopOf 2 = ([],[3,4,5,7,10,58,59],[3,7,10]) ∧ an17.loopOf 0 = ([],[3,4,5,7,10,38,39],[3,4,5,7,10]):=⟨rfl,rfl,rfl,rfl,rfl,rfl⟩
theorem fi17 : FI Try.prog 17 (cxA an17) x17 [.tmp 6] Try.f17:=fiA Try.func17 mixed
theorem wins_games (A B : Nat) (P Q : List Pd) (hA8 : A ≤ 8) (hB8 : B ≤ 8)
  (hP : ∀ p ∈ P,0 ≤ p.ar ∧ p.bits.length = A ^ p.ar.toNat) (hQ : ∀ p ∈ Q,0 ≤ p.ar ∧ p.bits.length = B ^ p.ar.toNat) (hPQ : P.map Pd.ar = Q.map Pd.ar) :
  ∀ (r : Nat) (xs ys : List Nat),xs.length + r ≤ 4 → ys.length = xs.length → (∀ x ∈ xs,x < A) → (∀ y ∈ ys,y < B) → ∀ es,MemG A B P Q es →
  CallOK Try.prog 17 [.ptr 0 0 0,.agg (ci (posC xs ys)),.int .i64 (r : Int)] (stB A B P Q es) (.bool (winS A B P Q r xs ys es).1) (stB A B P Q (winS A B P Q r xs ys es).2)
 | 0,xs,ys,hx,hy,h1,h2,es,hes=>by
  have hf:=fits_games A B P Q (.imap (memP es)) xs ys (by omega) hy h1 h2 hA8 hB8 hP hQ hPQ
  have hc:=posC_len (xs:=xs) (ys:=ys) (by omega) hy
  unfold winS
  dsimp only
  generalize posC xs ys = c1 at *
  have ht : (ci c1).take 9 = ci c1:=List.take_of_length_le (by simp [hc])
  refine fi17.og ?_
  cases hb : fitB A B P Q xs ys with
  | true=>
   rw [hb] at hf
   (refine Sg.h ?_;try repeat' ((first|(with_reducible first|refine brA ?_|refine brE fun _=>?_|refine spl ⟨?_,?_⟩<;>intro _) | (refine CL.see (hf) ?_ ?_ ?_;(focus (first | (simp;done) | (simp [scn];done)));(focus (simp [flats];done))) | (refine CD.see (hf) ?_ ?_ ?_;(focus (first | (simp;done) | (simp [scn];done)));(focus (simp [flats];done))))<;>((try simp -implicitDefEqProofs [hc,ht]);(try simp -implicitDefEqProofs(disch:=first|assumption|(try simp only[lens]);omega -splitDisjunctions) [hc,ht]))))
  | false=>
   rw [hb] at hf
   (refine Sg.h ?_;try repeat' ((first|(with_reducible first|refine brA ?_|refine brE fun _=>?_|refine spl ⟨?_,?_⟩<;>intro _) | (refine CL.see (hf) ?_ ?_ ?_;(focus (first | (simp;done) | (simp [scn];done)));(focus (simp [flats];done))) | (refine CD.see (hf) ?_ ?_ ?_;(focus (first | (simp;done) | (simp [scn];done)));(focus (simp [flats];done))))<;>((try simp -implicitDefEqProofs [hc,ht]);(try simp -implicitDefEqProofs(disch:=first|assumption|(try simp only[lens]);omega -splitDisjunctions) [hc,ht]))))
 | r + 1,xs,ys,hx,hy,h1,h2,es,hes=>by
  have hf:=fits_games A B P Q (.imap (memP es)) xs ys (by omega) hy h1 h2 hA8 hB8 hP hQ hPQ
  have hc:=posC_len (xs:=xs) (ys:=ys) (by omega) hy
  have ht : (ci (posC xs ys)).take 9 = ci (posC xs ys):=List.take_of_length_le (by simp [hc])
  obtain ⟨R,hR⟩ : ∃ R,winS A B P Q (r + 1) xs ys es = R:=⟨_,rfl⟩
  rw [hR]
  unfold winS at hR
  refine fi17.og ?_
  cases hb : fitB A B P Q xs ys with
  | false=>
   rw [hb] at hf
   rw [hb,if_neg (by simp)] at hR
   subst hR
   (refine Sg.h ?_;try repeat' ((first|(with_reducible first|refine brA ?_|refine brE fun _=>?_|refine spl ⟨?_,?_⟩<;>intro _) | (refine CL.see (hf) ?_ ?_ ?_;(focus (first | (simp;done) | (simp [scn];done)));(focus (simp [flats];done))) | (refine CD.see (hf) ?_ ?_ ?_;(focus (first | (simp;done) | (simp [scn];done)));(focus (simp [flats];done))))<;>((try simp -implicitDefEqProofs [hc,ht]);(try simp -implicitDefEqProofs(disch:=first|assumption|(try simp only[lens]);omega -splitDisjunctions) [hc,ht]))))
  | true=>
  rw [hb] at hf
  rw [hb,if_pos rfl] at hR
  have hko:=hes.2
  have hkl:=keyC_len (xs:=xs) (ys:=ys) (r:=r + 1) (by omega) (by omega)
  have hkz:=keyC_ok hA8 hB8 (r:=r + 1) (xs:=xs) (by omega) hy h1 h2 (by omega)
  have hwm:=wide_mem hko hkl hkz
  have hfp:=findP_memP (i:=0) hkl hko
  have f1 : ∀ l,(ci (posC xs ys) ++ l).take 9 = ci (posC xs ys):=fun l=>List.take_left' (by simp [hc])
  have f2 : (ci (posC xs ys) ++ [PV.int .i64 0,PV.int .i64 0,PV.int .i64 0,PV.int .i64 0,PV.int .i64 0,PV.int .i64 0,PV.int .i64 0,PV.int .i64 0,PV.int .i64 0]).drop 18 = []:=List.drop_of_length_le (by simp [hc])
  have f3 : ci (posC xs ys) ++ [PV.int .i64 ((r : Int) + 1),PV.int .i64 0,PV.int .i64 0,PV.int .i64 0,PV.int .i64 0,PV.int .i64 0,PV.int .i64 0,PV.int .i64 0,PV.int .i64 0] = ci (keyC xs ys (r + 1)):=by
   unfold keyC
   rw [← ci_app];rfl
  have f4 : (ci (keyC xs ys (r + 1))).take 18 = ci (keyC xs ys (r + 1)):=List.take_of_length_le (by simp [hkl])
  cases hl : lkM (keyC xs ys (r + 1)) es 0 with
  | some q=>
   obtain ⟨j,b⟩:=q
   rw [hl] at hR hfp
   dsimp only at hR
   subst hR
   generalize keyC xs ys (r + 1) = kc at *
   generalize posC xs ys = c1 at *
   (refine Sg.h ?_;try repeat' ((first|(with_reducible first|refine brA ?_|refine brE fun _=>?_|refine spl ⟨?_,?_⟩<;>intro _) | (refine CL.see (hf) ?_ ?_ ?_;(focus (first | (simp;done) | (simp [scn];done)));(focus (simp [flats];done))) | (refine CD.see (hf) ?_ ?_ ?_;(focus (first | (simp;done) | (simp [scn];done)));(focus (simp [flats];done))))<;>((try simp -implicitDefEqProofs [hc,ht,hkl,f1,f2,f3,f4,hwm,hfp]);(try simp -implicitDefEqProofs(disch:=first|assumption|(try simp only[lens]);omega -splitDisjunctions) [hc,ht,hkl,f1,f2,f3,f4,hwm,hfp]))))
  | none=>
   rw [hl] at hR hfp
   dsimp only at hR
   have ih:=fun x (hxA : x < A) y (hyB : y < B) es (h : MemG A B P Q es)=>wins_games A B P Q hA8 hB8 hP hQ hPQ r (xs ++ [x]) (ys ++ [y]) (by simp;omega) (by simp [hy])
    (fun z hz=>by rcases List.mem_append.1 hz with h | h;exact h1 z h;rw [List.mem_singleton.1 h];exact hxA) (fun z hz=>by rcases List.mem_append.1 hz with h | h;exact h2 z h;rw [List.mem_singleton.1 h];exact hyB) es h
   have sp:=fun x (hxA : x < A) y (hyB : y < B) es (h : MemG A B P Q es)=>winS_spec hA8 hB8 r (xs ++ [x]) (ys ++ [y]) (by simp;omega) (by simp [hy])
    (fun z hz=>by rcases List.mem_append.1 hz with h | h;exact h1 z h;rw [List.mem_singleton.1 h];exact hxA) (fun z hz=>by rcases List.mem_append.1 hz with h | h;exact h2 z h;rw [List.mem_singleton.1 h];exact hyB) es h
   generalize hk : keyC xs ys (r + 1) = kc at *
   (refine Sg.h ?_;try repeat' ((first|(with_reducible first|refine brA ?_|refine brE fun _=>?_|refine spl ⟨?_,?_⟩<;>intro _) | (refine CL.see (hf) ?_ ?_ ?_;(focus (first | (simp;done) | (simp [scn];done)));(focus (simp [flats];done))) | (refine CD.see (hf) ?_ ?_ ?_;(focus (first | (simp;done) | (simp [scn];done)));(focus (simp [flats];done))))<;>((try simp -implicitDefEqProofs [hc,ht,hkl,f1,f2,f3,f4,hwm,hfp]);(try simp -implicitDefEqProofs(disch:=first|assumption|(try simp only[lens]);omega -splitDisjunctions) [hc,ht,hkl,f1,f2,f3,f4,hwm,hfp]))))
   have hxl : xs.length < 4:=by omega
   -- the second loop,from any memory
   have key2 : ∀ (b1 : Bool) (es1 : Mem),MemG A B P Q es1 → ((allS (fun y => anyS (fun x => winS A B P Q r (xs ++ [x]) (ys ++ [y])) (List.range A)) (List.range B) b1 es1).1,ptM kc (allS (fun y => anyS (fun x => winS A B P Q r (xs ++ [x]) (ys ++ [y])) (List.range A)) (List.range B) b1 es1).1 (allS (fun y => anyS (fun x => winS A B P Q r (xs ++ [x]) (ys ++ [y])) (List.range A)) (List.range B) b1 es1).2) = R →
     W (cxA an17 Try.prog 2) 2 x17_L2 (KS.seq x17_T3 (KS.fin [ResultVar.tmp 6] (gcFin 2 (.bool R.1) [.rows 7 [brdC A B P Q (.mapv 1)],.map (memP R.2)]))) [(3,.ptr 2 0 0),(4,.ptr 3 0 0),(5,.ptr 4 0 0),(7,.ptr 5 0 0),(10,.bool b1),(58,.int .i64 (B : Int)),(59,.int .i64 0)] (stB A B P Q es1 ++ [.rows 1 [[.ptr 0 0 0]],.rows 9 [ci (posC xs ys)],.rows 1 [[.int .i64 ((r : Int) + 1)]],.rows 18 [ci kc]]):=by
    intro b1 es1 hes1 hR
    refine W_of fun Q2 hQ2=>?_
    have main2 : ∀ k i b es2,i + k = B → MemG A B P Q es2 → allS (fun y => anyS (fun x => winS A B P Q r (xs ++ [x]) (ys ++ [y])) (List.range A)) (List.range B) b1 es1 = allS (fun y => anyS (fun x => winS A B P Q r (xs ++ [x]) (ys ++ [y])) (List.range A)) (List.range' i k) b es2 →
      Q2 [(3,.ptr 2 0 0),(4,.ptr 3 0 0),(5,.ptr 4 0 0),(7,.ptr 5 0 0),(10,.bool b),(58,.int .i64 (B : Int)),(59,.int .i64 (i : Int))] (stB A B P Q es2 ++ [.rows 1 [[.ptr 0 0 0]],.rows 9 [ci (posC xs ys)],.rows 1 [[.int .i64 ((r : Int) + 1)]],.rows 18 [ci kc]]):=by
     intro k
     induction k with
     | zero=>
      intro i b es2 hi hes2 hq
      obtain rfl : i = B:=by omega
      rw [List.range'_zero,allS] at hq
      rw [hq] at hR
      dsimp only at hR
      have hwm2:=wide_mem hes2.2 hkl hkz
      have hfp2:=findP_memP (i:=0) hkl hes2.2
      have hput:=putP_memP (c:=kc) (b:=b) (es:=es2)
      clear hwm hfp hl
      generalize (lkM kc es2 0).map (fun q=>(q.1,PV.bool q.2)) = z at *
      subst hR
      apply hQ2
      clear hQ2
      (refine Sg.h ?_;try repeat' ((with_reducible first|refine brA ?_|refine brE fun _=>?_|refine spl ⟨?_,?_⟩<;>intro _)<;>((try simp -implicitDefEqProofs [f4,hkl,hwm2,hfp2,hput]);(try simp -implicitDefEqProofs(disch:=first|assumption|(try simp only[lens]);omega -splitDisjunctions) [f4,hkl,hwm2,hfp2,hput]))))
     | succ k ihk=>
      intro i b es2 hi hes2 hq
      rw [List.range'_succ,allS] at hq
      have hi' : (i : Int) < (B : Int):=by omega
      cases b with
      | false=>
       rw [if_neg (by simp)] at hq
       have ihk:=ihk (i + 1) false es2 (by omega) hes2 hq
       apply hQ2
       clear hQ2
       (refine Sg.h ?_;try repeat' ((with_reducible first|refine brA ?_|refine brE fun _=>?_|refine spl ⟨?_,?_⟩<;>intro _)<;>((try simp -implicitDefEqProofs [hi']);(try simp -implicitDefEqProofs(disch:=first|assumption|(try simp only[lens]);omega -splitDisjunctions) [hi']))))
       all_goals first|exact ihk|(refine at2 ihk ?_ ?_<;>simp;done)|(exfalso;first|omega|(simp_all;done)|(simp_all;omega))
      | true=>
       rw [if_pos rfl] at hq
       have hup:=upTo_games A (by omega)
       have hcf:=ContainsFunc_mem A B P Q (posC xs ys) i (r + 1) 30 (fun x es=>winS A B P Q r (xs ++ [x]) (ys ++ [i]) es) (MemG A B P Q) (List.range A) (by simp;omega)
        (fun x hxA es h=>wins2_games A B P Q xs ys hxl hy x i r es _ (ih x (List.mem_range.1 hxA) i (by omega) es h) (by omega))
        (fun x hxA es h=>(sp x (List.mem_range.1 hxA) i (by omega) es h).2) es2 hes2
       have hok:=anyS_ok (ok:=MemG A B P Q) (f:=fun x es=>winS A B P Q r (xs ++ [x]) (ys ++ [i]) es) (g:=fun x=>winF A B P Q r (xs ++ [x]) (ys ++ [i])) (l:=List.range A)
        (fun x hxA es h=>sp x (List.mem_range.1 hxA) i (by omega) es h) es2 hes2
       have ihk:=ihk (i + 1) _ _ (by omega) hok.2 hq
       clear hok hq
       generalize anyS (fun x=>winS A B P Q r (xs ++ [x]) (ys ++ [i])) (List.range A) es2 = q at *
       obtain ⟨b2,es3⟩:=q
       dsimp only at *
       apply hQ2
       clear hQ2
       (refine Sg.h ?_;try repeat' ((first|(with_reducible first|refine brA ?_|refine brE fun _=>?_|refine spl ⟨?_,?_⟩<;>intro _)|refine clo hup ?_)<;>((try simp -implicitDefEqProofs [hi']);(try simp -implicitDefEqProofs(disch:=first|assumption|(try simp only[lens]);omega -splitDisjunctions) [hi']))))
       refine cl_W hcf ?_
       (refine Sg.h ?_;try repeat' ((with_reducible first|refine brA ?_|refine brE fun _=>?_|refine spl ⟨?_,?_⟩<;>intro _)<;>((try simp -implicitDefEqProofs);(try simp -implicitDefEqProofs(disch:=first|assumption|(try simp only[lens]);omega -splitDisjunctions)))))
       all_goals first|exact ihk|(refine at2 ihk ?_ ?_<;>simp;done)|(exfalso;first|omega|(simp_all;done)|(simp_all;omega))
    all_goals first|exact main2 B 0 b1 es1 (Nat.zero_add _) hes1 (by rw [show List.range' 0 B = List.range B from List.range_eq_range'.symm])|(refine at2 main2 B 0 b1 es1 (Nat.zero_add _) hes1 (by rw [show List.range' 0 B = List.range B from List.range_eq_range'.symm]) ?_ ?_<;>simp;done)|(exfalso;first|omega|(simp_all;done)|(simp_all;omega))
   refine W_of fun Q1 hQ1=>?_
   have main1 : ∀ k i b es1,i + k = A → MemG A B P Q es1 → allS (fun x => anyS (fun y => winS A B P Q r (xs ++ [x]) (ys ++ [y])) (List.range B)) (List.range A) true es = allS (fun x => anyS (fun y => winS A B P Q r (xs ++ [x]) (ys ++ [y])) (List.range B)) (List.range' i k) b es1 →
     Q1 [(3,.ptr 2 0 0),(4,.ptr 3 0 0),(5,.ptr 4 0 0),(7,.ptr 5 0 0),(10,.bool b),(38,.int .i64 (A : Int)),(39,.int .i64 (i : Int))] (stB A B P Q es1 ++ [.rows 1 [[.ptr 0 0 0]],.rows 9 [ci (posC xs ys)],.rows 1 [[.int .i64 ((r : Int) + 1)]],.rows 18 [ci kc]]):=by
    intro k
    induction k with
    | zero=>
     intro i b es1 hi hes1 hq
     obtain rfl : i = A:=by omega
     rw [List.range'_zero,allS] at hq
     rw [hq] at hR
     have key2:=key2 b es1 hes1 hR
     apply hQ1
     clear hQ1
     (refine Sg.h ?_;try repeat' ((with_reducible first|refine brA ?_|refine brE fun _=>?_|refine spl ⟨?_,?_⟩<;>intro _)<;>((try simp -implicitDefEqProofs);(try simp -implicitDefEqProofs(disch:=first|assumption|(try simp only[lens]);omega -splitDisjunctions)))))
     exact key2
    | succ k ihk=>
     intro i b es1 hi hes1 hq
     rw [List.range'_succ,allS] at hq
     have hi' : (i : Int) < (A : Int):=by omega
     cases b with
     | false=>
      rw [if_neg (by simp)] at hq
      have ihk:=ihk (i + 1) false es1 (by omega) hes1 hq
      apply hQ1
      clear hQ1
      (refine Sg.h ?_;try repeat' ((with_reducible first|refine brA ?_|refine brE fun _=>?_|refine spl ⟨?_,?_⟩<;>intro _)<;>((try simp -implicitDefEqProofs [hi']);(try simp -implicitDefEqProofs(disch:=first|assumption|(try simp only[lens]);omega -splitDisjunctions) [hi']))))
      all_goals first|exact ihk|(refine at2 ihk ?_ ?_<;>simp;done)|(exfalso;first|omega|(simp_all;done)|(simp_all;omega))
     | true=>
      rw [if_pos rfl] at hq
      have hup:=upTo_games B (by omega)
      have hcf:=ContainsFunc_mem A B P Q (posC xs ys) i (r + 1) 28 (fun y es=>winS A B P Q r (xs ++ [i]) (ys ++ [y]) es) (MemG A B P Q) (List.range B) (by simp;omega)
       (fun y hyB es h=>wins1_games A B P Q xs ys hxl hy i y r es _ (ih i (by omega) y (List.mem_range.1 hyB) es h) (by omega))
       (fun y hyB es h=>(sp i (by omega) y (List.mem_range.1 hyB) es h).2) es1 hes1
      have hok:=anyS_ok (ok:=MemG A B P Q) (f:=fun y es=>winS A B P Q r (xs ++ [i]) (ys ++ [y]) es) (g:=fun y=>winF A B P Q r (xs ++ [i]) (ys ++ [y])) (l:=List.range B)
       (fun y hyB es h=>sp i (by omega) y (List.mem_range.1 hyB) es h) es1 hes1
      have ihk:=ihk (i + 1) _ _ (by omega) hok.2 hq
      clear hok hq
      generalize anyS (fun y=>winS A B P Q r (xs ++ [i]) (ys ++ [y])) (List.range B) es1 = q at *
      obtain ⟨b2,es2⟩:=q
      dsimp only at *
      apply hQ1
      clear hQ1
      (refine Sg.h ?_;try repeat' ((first|(with_reducible first|refine brA ?_|refine brE fun _=>?_|refine spl ⟨?_,?_⟩<;>intro _)|refine clo hup ?_)<;>((try simp -implicitDefEqProofs [hi']);(try simp -implicitDefEqProofs(disch:=first|assumption|(try simp only[lens]);omega -splitDisjunctions) [hi']))))
      refine cl_W hcf ?_
      (refine Sg.h ?_;try repeat' ((with_reducible first|refine brA ?_|refine brE fun _=>?_|refine spl ⟨?_,?_⟩<;>intro _)<;>((try simp -implicitDefEqProofs);(try simp -implicitDefEqProofs(disch:=first|assumption|(try simp only[lens]);omega -splitDisjunctions)))))
      all_goals first|exact ihk|(refine at2 ihk ?_ ?_<;>simp;done)|(exfalso;first|omega|(simp_all;done)|(simp_all;omega))
   all_goals first|exact main1 A 0 true es (Nat.zero_add _) hes (by rw [show List.range' 0 A = List.range A from List.range_eq_range'.symm])|(refine at2 main1 A 0 true es (Nat.zero_add _) hes (by rw [show List.range' 0 A = List.range A from List.range_eq_range'.symm]) ?_ ?_<;>simp;done)|(exfalso;first|omega|(simp_all;done)|(simp_all;omega))
end Go.Proofs.Ytfhakdonenhnbaa
