import Derived.Test.YtfhakdonenhnbaaBMnG
import Derived.Test.YtfhakdonenhnbaaBGaD
import Derived.Test.YtfhakdonenhnbaaBGaP
set_option linter.unusedVariables false
set_option linter.unusedSimpArgs false
set_option maxRecDepth 100000
set_option maxHeartbeats 4000000
namespace Go.Proofs.Ytfhakdonenhnbaa
open Go Go.Pv
def PredsOk (N : Int) (P : List Pd) : Prop:=∀ f ∈ P,bitF N f = 0
theorem bitF_zero {N : Int} {f : Pd} (h : bitF N f = 0) : 0 ≤ f.ar ∧ f.ar ≤ 3 ∧ (f.bits.length : Int) = N ^ f.ar.toNat:=by
 unfold bitF at h
 split at h
 ·cases h
 rename_i h1
 split at h
 ·cases h
 rename_i h2
 exact ⟨by omega,by omega,Decidable.not_not.1 h2⟩
def stE (L : Ev) : Store:=[.map (mapI L)]
attribute [simp] stE
end Go.Proofs.Ytfhakdonenhnbaa
namespace Go.Proofs.Ytfhakdonenhnbaa
open Go Go.Pv
@[simp] theorem mapI_deref {s : Store} {n : Nat} (L : Ev) : (mapI L).map (fun p=>(deref s n p.1,deref s n p.2)) = mapI L:=by simp [mapI]
section
variable {C : WC} {f : Operand} {args : Array Operand} {d : Option Tmp} {fid : FuncId} {vs : List PV} {e : AE} {rest : Store} {L L' : Ev} {K : KS} {ops : List LOp}
theorem liveE : liveS [0] (stE L ++ rest) [0] = stE L:=by simp [liveS]
end
end Go.Proofs.Ytfhakdonenhnbaa
namespace Go.Proofs.Ytfhakdonenhnbaa
open Go Go.Pv
theorem stcF_zero {S : Stc} (h : (stcF S).1 = 0) : 0 < S.n ∧ S.n ≤ 8 ∧ S.funs.length ≤ 10 ∧ S.preds.length ≤ 10 ∧ (S.funs.map Fn.name).Nodup ∧ (S.preds.map Pd.name).Nodup ∧ FunsOk S.n S.funs ∧ PredsOk S.n S.preds ∧ stcF S = (0,0):=by
 unfold stcF at h ⊢
 split at h
 ·exact absurd h (fun g=>by cases g)
 rename_i h1
 split at h
 ·rename_i h2;exact absurd h h2
 rename_i h2
 rw [if_neg h1,if_neg h2]
 have funs : ∀ (r pre : List Fn) (i : Nat),(funsF S.n pre r i).1 = 0 → (pre.map Fn.name).Nodup → ((pre ++ r).map Fn.name).Nodup ∧ ∀ f ∈ r,tabF S.n f = 0:=by
  intro r
  induction r with
  | nil=>intro pre i _ hp;rw [List.append_nil];exact ⟨hp,fun f hf=>by cases hf⟩
  | cons f r ih=>
   intro pre i hz hp
   rw [funsF] at hz
   split at hz
   ·exact absurd hz (fun g=>by cases g)
   rename_i g1
   split at hz
   ·rename_i g2;exact absurd hz g2
   rename_i g2
   have hno : (pre.any fun g=>decide (g.name = f.name)) = false:=by
    cases hb : (pre.any fun g=>decide (g.name = f.name)) with
    | true=>exact absurd (.inr hb) g1
    | false=>rfl
   obtain ⟨a1,a2⟩:=ih (pre ++ [f]) (i + 1) hz (by
    rw [List.map_append,List.nodup_append]
    refine ⟨hp,by simp,fun a ha b hb=>?_⟩
    obtain ⟨g,hg,rfl⟩:=List.mem_map.1 ha
    simp only [List.map_cons,List.map_nil,List.mem_singleton] at hb
    rw [hb]
    have:=List.any_eq_false.1 hno g hg
    simpa using this)
   refine ⟨by rw [List.append_assoc] at a1;exact a1,fun g hg=>?_⟩
   rcases List.mem_cons.1 hg with rfl | hg
   ·exact Decidable.not_not.1 g2
   ·exact a2 g hg
 have preds : ∀ (r pre : List Pd) (i : Nat),(predsF S.n pre r i).1 = 0 → (pre.map Pd.name).Nodup → ((pre ++ r).map Pd.name).Nodup ∧ (∀ f ∈ r,bitF S.n f = 0) ∧ predsF S.n pre r i = (0,0):=by
  intro r
  induction r with
  | nil=>intro pre i _ hp;rw [List.append_nil];exact ⟨hp,(fun f hf=>by cases hf),by rw [predsF]⟩
  | cons f r ih=>
   intro pre i hz hp
   rw [predsF] at hz ⊢
   split at hz
   ·exact absurd hz (fun g=>by cases g)
   rename_i g1
   split at hz
   ·rename_i g2;exact absurd hz g2
   rename_i g2
   rw [if_neg g1,if_neg g2]
   have hno : (pre.any fun g=>decide (g.name = f.name)) = false:=by
    cases hb : (pre.any fun g=>decide (g.name = f.name)) with
    | true=>exact absurd (.inr hb) g1
    | false=>rfl
   obtain ⟨a1,a2,a3⟩:=ih (pre ++ [f]) (i + 1) hz (by
    rw [List.map_append,List.nodup_append]
    refine ⟨hp,by simp,fun a ha b hb=>?_⟩
    obtain ⟨g,hg,rfl⟩:=List.mem_map.1 ha
    simp only [List.map_cons,List.map_nil,List.mem_singleton] at hb
    rw [hb]
    have:=List.any_eq_false.1 hno g hg
    simpa using this)
   refine ⟨by rw [List.append_assoc] at a1;exact a1,fun g hg=>?_,a3⟩
   rcases List.mem_cons.1 hg with rfl | hg
   ·exact Decidable.not_not.1 g2
   ·exact a2 g hg
 obtain ⟨f1,f2⟩:=funs S.funs [] 0 (Decidable.not_not.1 h2) (by simp)
 obtain ⟨p1,p2,p3⟩:=preds S.preds [] S.funs.length h (by simp)
 exact ⟨by omega,by omega,by omega,by omega,f1,p1,f2,p2,p3⟩
end Go.Proofs.Ytfhakdonenhnbaa
namespace Go.Proofs.Ytfhakdonenhnbaa
open Go Go.Pv
def arF : List Pd → Nat → Option Nat
 | [],_=>none
 | p :: r,i=>if 2 < p.ar then some i else arF r (i + 1)
def kndF (S : Stc) : Option Nat:=if 0 < S.funs.length then some 0 else arF S.preds 0
def nmF : List Pd → List Pd → Nat → Option Nat
 | p :: r,q :: t,i=>if p.name ≠ q.name ∨ p.ar ≠ q.ar then some i else nmF r t (i + 1)
 | _,_,_=>none
def gameF (a b : Stc) (n : Int) : Int × Int:=
 if (stcF a).1 ≠ 0 then stcF a else if (stcF b).1 ≠ 0 then stcF b else match kndF a with
 | some k=>(4,(k : Int))
 | none=>match kndF b with
  | some k=>(4,(k : Int))
  | none=>if a.preds.length ≠ b.preds.length then (9,0) else match nmF a.preds b.preds 0 with
   | some i=>(9,(i : Int))
   | none=>if n < 0 ∨ 4 < n then (3,0) else (0,0)
def x24 : XC:=.seq (.reg [⟨some 4,.alloc 33,none⟩]) (.seq (.reg [⟨some 5,.move (.tmp 0),none⟩,⟨some 6,.move (.tmp 1),none⟩,⟨some 7,.build 33 #[(0,.tmp 5),(1,.tmp 6)],none⟩,⟨none,.store 33 (.tmp 4) (.tmp 7),none⟩]) .ret)
@[simp] theorem x24_s {C e s K} : type_of% (@X_at C e s K _ _ x24.eq_1):=X_at x24.eq_1
def an24 : Ann:=⟨[],[],[]⟩
theorem fi24 : FI Try.prog 24 (cxA an24) x24 [.cell 4 33] Try.f24:=fiA Try.func24 mixed
theorem fault_games (c a : Int) : CallOK Try.prog 24 [.int .i64 c,.int .i64 a] [] (.agg [.int .i64 c,.int .i64 a]) []:=by
 refine fi24.op ?_
 (refine Sg.h ?_;try repeat' ((with_reducible first|refine brA ?_|refine brE fun _=>?_|refine spl ⟨?_,?_⟩<;>intro _)<;>((try simp -implicitDefEqProofs);(try simp -implicitDefEqProofs(disch:=first|assumption|(try simp only[lens]);omega -splitDisjunctions)))))
def x16_T6 : XC:=.seq (.seq (.reg [⟨some 96,.move (.tmp 2),none⟩,⟨some 97,.binOp .lss 3 (.tmp 96) (.const (.int .i64 0)) 3,none⟩,⟨some 98,.move (.tmp 97),none⟩,⟨some 99,.move (.tmp 2),some (some 98,false)⟩,⟨some 100,.binOp .gtr 3 (.tmp 99) (.const (.int .i64 4)) 3,some (some 98,false)⟩,⟨some 101,.pick (.tmp 98) (.const (.bool true)) (.tmp 100),none⟩]) (.cond (.tmp 101) (.seq (.reg [⟨some 102,.call ⟨.value (.func 24),#[.const (.int .i64 3),.const (.int .i64 0)],#[3,3]⟩,none⟩,⟨none,.store 33 (.tmp 6) (.tmp 102),none⟩]) .ret) .skip)) (.seq (.reg [⟨some 103,.build 33 #[],none⟩,⟨none,.store 33 (.tmp 6) (.tmp 103),none⟩]) .ret)
def x16_L6 : XC:=.seq (.reg [⟨some 72,.binOp .lss 3 (.tmp 71) (.tmp 70) 3,none⟩]) (.seq (.cond (.tmp 72) .skip (.exit 6)) (.seq (.block 7 (.seq (.reg [⟨some 73,.move (.tmp 71),none⟩,⟨some 74,.indexAddr 23 (.tmp 69) (.tmp 71),none⟩,⟨some 75,.load 64 (.tmp 74),none⟩,⟨some 15,.alloc 64,none⟩,⟨some 14,.assign (.tmp 73),none⟩,⟨none,.store 64 (.tmp 15) (.tmp 75),none⟩]) (.seq (.reg [⟨some 76,.fieldAddr 25 (.tmp 4) 2,none⟩,⟨some 77,.load 23 (.tmp 76),none⟩,⟨some 78,.move (.tmp 14),none⟩,⟨some 79,.indexAddr 23 (.tmp 77) (.tmp 78),none⟩,⟨some 80,.load 64 (.tmp 79),none⟩,⟨some 16,.alloc 64,none⟩,⟨none,.store 64 (.tmp 16) (.tmp 80),none⟩]) (.seq (.reg [⟨some 81,.fieldAddr 64 (.tmp 15) 0,none⟩,⟨some 82,.load 9 (.tmp 81),none⟩,⟨some 83,.fieldAddr 64 (.tmp 16) 0,none⟩,⟨some 84,.load 9 (.tmp 83),none⟩,⟨some 85,.binOp .neq 9 (.tmp 82) (.tmp 84) 9,none⟩,⟨some 86,.move (.tmp 85),none⟩,⟨some 87,.fieldAddr 64 (.tmp 15) 1,some (some 86,false)⟩,⟨some 88,.load 3 (.tmp 87),some (some 86,false)⟩,⟨some 89,.fieldAddr 64 (.tmp 16) 1,some (some 86,false)⟩,⟨some 90,.load 3 (.tmp 89),some (some 86,false)⟩,⟨some 91,.binOp .neq 3 (.tmp 88) (.tmp 90) 3,some (some 86,false)⟩,⟨some 92,.pick (.tmp 86) (.const (.bool true)) (.tmp 91),none⟩]) (.cond (.tmp 92) (.seq (.reg [⟨some 93,.move (.tmp 14),none⟩,⟨some 94,.call ⟨.value (.func 24),#[.const (.int .i64 9),.tmp 93],#[3,3]⟩,none⟩,⟨none,.store 33 (.tmp 6) (.tmp 94),none⟩]) .ret) .skip))))) (.reg [⟨some 95,.binOp .add 3 (.tmp 71) (.const (.int .i64 1)) 3,none⟩,⟨some 71,.move (.tmp 95),none⟩])))
def x16_T4 : XC:=.seq (.seq (.reg [⟨some 60,.fieldAddr 25 (.tmp 3) 2,none⟩,⟨some 61,.load 23 (.tmp 60),none⟩,⟨some 62,.call ⟨.builtin .len,#[.tmp 61],#[23]⟩,none⟩,⟨some 63,.fieldAddr 25 (.tmp 4) 2,none⟩,⟨some 64,.load 23 (.tmp 63),none⟩,⟨some 65,.call ⟨.builtin .len,#[.tmp 64],#[23]⟩,none⟩,⟨some 66,.binOp .neq 3 (.tmp 62) (.tmp 65) 3,none⟩]) (.cond (.tmp 66) (.seq (.reg [⟨some 67,.call ⟨.value (.func 24),#[.const (.int .i64 9),.const (.int .i64 0)],#[3,3]⟩,none⟩,⟨none,.store 33 (.tmp 6) (.tmp 67),none⟩]) .ret) .skip)) (.seq (.seq (.reg [⟨some 68,.fieldAddr 25 (.tmp 3) 2,none⟩,⟨some 69,.load 23 (.tmp 68),none⟩,⟨some 70,.call ⟨.builtin .len,#[.tmp 69],#[23]⟩,none⟩,⟨some 71,.move (.const (.int .i64 0)),none⟩]) (.bloop 6 x16_L6)) (x16_T6))
def x16_L4 : XC:=.seq (.reg [⟨some 49,.binOp .lss 3 (.tmp 48) (.tmp 47) 3,none⟩]) (.seq (.cond (.tmp 49) .skip (.exit 4)) (.seq (.block 5 (.seq (.reg [⟨some 50,.move (.tmp 48),none⟩,⟨some 51,.indexAddr 23 (.tmp 46) (.tmp 48),none⟩,⟨some 52,.load 64 (.tmp 51),none⟩,⟨some 13,.alloc 64,none⟩,⟨some 12,.assign (.tmp 50),none⟩,⟨none,.store 64 (.tmp 13) (.tmp 52),none⟩]) (.seq (.reg [⟨some 53,.fieldAddr 64 (.tmp 13) 1,none⟩,⟨some 54,.load 3 (.tmp 53),none⟩,⟨some 55,.binOp .gtr 3 (.tmp 54) (.const (.int .i64 2)) 3,none⟩]) (.cond (.tmp 55) (.seq (.reg [⟨some 56,.move (.tmp 12),none⟩,⟨some 57,.call ⟨.value (.func 24),#[.const (.int .i64 4),.tmp 56],#[3,3]⟩,none⟩,⟨none,.store 33 (.tmp 6) (.tmp 57),none⟩]) .ret) .skip)))) (.reg [⟨some 58,.binOp .add 3 (.tmp 48) (.const (.int .i64 1)) 3,none⟩,⟨some 48,.move (.tmp 58),none⟩])))
def x16_L2 : XC:=.seq (.reg [⟨some 37,.binOp .lss 3 (.tmp 36) (.tmp 35) 3,none⟩]) (.seq (.cond (.tmp 37) .skip (.exit 2)) (.seq (.block 3 (.seq (.reg [⟨some 38,.indexAddr 66 (.tmp 34) (.tmp 36),none⟩,⟨some 39,.load 25 (.tmp 38),none⟩,⟨some 11,.alloc 25,none⟩,⟨none,.store 25 (.tmp 11) (.tmp 39),none⟩]) (.seq (.seq (.reg [⟨some 40,.fieldAddr 25 (.tmp 11) 1,none⟩,⟨some 41,.load 22 (.tmp 40),none⟩,⟨some 42,.call ⟨.builtin .len,#[.tmp 41],#[22]⟩,none⟩,⟨some 43,.binOp .gtr 3 (.tmp 42) (.const (.int .i64 0)) 3,none⟩]) (.cond (.tmp 43) (.seq (.reg [⟨some 44,.call ⟨.value (.func 24),#[.const (.int .i64 4),.const (.int .i64 0)],#[3,3]⟩,none⟩,⟨none,.store 33 (.tmp 6) (.tmp 44),none⟩]) .ret) .skip)) (.seq (.reg [⟨some 45,.fieldAddr 25 (.tmp 11) 2,none⟩,⟨some 46,.load 23 (.tmp 45),none⟩,⟨some 47,.call ⟨.builtin .len,#[.tmp 46],#[23]⟩,none⟩,⟨some 48,.move (.const (.int .i64 0)),none⟩]) (.bloop 4 x16_L4))))) (.reg [⟨some 59,.binOp .add 3 (.tmp 36) (.const (.int .i64 1)) 3,none⟩,⟨some 36,.move (.tmp 59),none⟩])))
def x16_T1 : XC:=.seq (.seq (.reg [⟨some 32,.load 25 (.tmp 3),none⟩,⟨some 33,.load 25 (.tmp 4),none⟩,⟨some 34,.buildSlice 66 2 #[(0,.tmp 32),(1,.tmp 33)],none⟩,⟨some 35,.call ⟨.builtin .len,#[.tmp 34],#[66]⟩,none⟩,⟨some 36,.move (.const (.int .i64 0)),none⟩]) (.bloop 2 x16_L2)) (x16_T4)
def x16_L0 : XC:=.seq (.reg [⟨some 22,.binOp .lss 3 (.tmp 21) (.tmp 20) 3,none⟩]) (.seq (.cond (.tmp 22) .skip (.exit 0)) (.seq (.block 1 (.seq (.reg [⟨some 23,.indexAddr 66 (.tmp 19) (.tmp 21),none⟩,⟨some 24,.load 25 (.tmp 23),none⟩,⟨some 8,.alloc 25,none⟩,⟨none,.store 25 (.tmp 8) (.tmp 24),none⟩]) (.seq (.reg [⟨some 25,.load 25 (.tmp 8),none⟩,⟨some 26,.call ⟨.value (.func 23),#[.tmp 25],#[25]⟩,none⟩,⟨some 9,.alloc 33,none⟩,⟨none,.store 33 (.tmp 9) (.tmp 26),none⟩]) (.seq (.reg [⟨some 27,.fieldAddr 33 (.tmp 9) 0,none⟩,⟨some 28,.load 3 (.tmp 27),none⟩,⟨some 29,.binOp .neq 3 (.tmp 28) (.const (.int .i64 0)) 3,none⟩]) (.cond (.tmp 29) (.seq (.reg [⟨some 30,.load 33 (.tmp 9),none⟩,⟨none,.store 33 (.tmp 6) (.tmp 30),none⟩]) .ret) .skip))))) (.reg [⟨some 31,.binOp .add 3 (.tmp 21) (.const (.int .i64 1)) 3,none⟩,⟨some 21,.move (.tmp 31),none⟩])))
def x16 : XC:=.seq (.reg [⟨some 3,.box 25 (.tmp 0),none⟩,⟨some 4,.box 25 (.tmp 1),none⟩,⟨some 6,.alloc 33,none⟩]) (.seq (.seq (.reg [⟨some 17,.load 25 (.tmp 3),none⟩,⟨some 18,.load 25 (.tmp 4),none⟩,⟨some 19,.buildSlice 66 2 #[(0,.tmp 17),(1,.tmp 18)],none⟩,⟨some 20,.call ⟨.builtin .len,#[.tmp 19],#[66]⟩,none⟩,⟨some 21,.move (.const (.int .i64 0)),none⟩]) (.bloop 0 x16_L0)) (x16_T1))
@[simp] theorem x16_s {C e s K} : type_of% (@X_at C e s K _ _ x16_T6.eq_1) ∧ type_of% (@X_at C e s K _ _ x16_L6.eq_1) ∧ type_of% (@X_at C e s K _ _ x16_T4.eq_1) ∧ type_of% (@X_at C e s K _ _ x16_L4.eq_1) ∧ type_of% (@X_at C e s K _ _ x16_L2.eq_1) ∧ type_of% (@X_at C e s K _ _ x16_T1.eq_1) ∧ type_of% (@X_at C e s K _ _ x16_L0.eq_1) ∧ type_of% (@X_at C e s K _ _ x16.eq_1):=⟨X_at x16_T6.eq_1,X_at x16_L6.eq_1,X_at x16_T4.eq_1,X_at x16_L4.eq_1,X_at x16_L2.eq_1,X_at x16_T1.eq_1,X_at x16_L0.eq_1,X_at x16.eq_1⟩
def an16 : Ann:=⟨[],[(6,[],[2,4,6,69,70,71],[2,6]),(4,[],[2,3,4,6,34,35,36,46,47,48],[2,3,4,6,34,35,36]),(2,[],[2,3,4,6,34,35,36],[2,3,4,6]),(0,[],[2,3,4,6,19,20,21],[2,3,4,6])],[]⟩
@[simp] theorem an16_a : an16.loopOf 6 = ([],[2,4,6,69,70,71],[2,6]) ∧ an16.loopOf 4 = ([],[2,3,4,6,34,35,36,46,47,48],[2,3,4,6,34,35,36]) ∧ an16.loopOf 2 = ([],[2,3,4,6,34,35,36],[2,3,4,6]) ∧ an16.loopOf 0 = ([],[2,3,4,6,19,20,21],[2,3,4,6]):=⟨rfl,rfl,rfl,rfl⟩
theorem fi16 : FI Try.prog 16 (cxA an16) x16 [.cell 6 33] Try.f16:=fiA Try.func16 mixed
theorem look_games (a b : Stc) (n : Int) : CallOK Try.prog 16 [.agg (stc a),.agg (stc b),.int .i64 n] [] (.agg [.int .i64 (gameF a b n).1,.int .i64 (gameF a b n).2]) []:=by
 have ca:=Check_meaning a
 have cb:=Check_meaning b
 have hf:=fault_games
 obtain ⟨R,hR⟩ : ∃ R,gameF a b n = R:=⟨_,rfl⟩
 rw [hR]
 unfold gameF at hR
 obtain ⟨na,Fa,Pa⟩:=a
 obtain ⟨nb,Fb,Pb⟩:=b
 have la:=fun i=>hf 4 i
 unfold stc at ca cb ⊢
 dsimp only at ca cb ⊢
 refine fi16.op ?_
 (refine Sg.h ?_;try repeat' ((with_reducible first|refine brA ?_|refine brE fun _=>?_|refine spl ⟨?_,?_⟩<;>intro _)<;>((try simp -implicitDefEqProofs);(try simp -implicitDefEqProofs(disch:=first|assumption|(try simp only[lens]);omega -splitDisjunctions)))))
 refine W_of fun Q0 hQ0=>?_
 by_cases h1 : (stcF ⟨na,Fa,Pa⟩).1 = 0
 rotate_left
 ·rw [if_pos h1] at hR
  rw [hR] at ca h1
  apply hQ0
  clear hQ0
  (refine Sg.h ?_;try repeat' ((first|(with_reducible first|refine brA ?_|refine brE fun _=>?_|refine spl ⟨?_,?_⟩<;>intro _)|refine clo ca ?_)<;>((try simp -implicitDefEqProofs [h1]);(try simp -implicitDefEqProofs(disch:=first|assumption|(try simp only[lens]);omega -splitDisjunctions) [h1]))))
 rw [if_neg (fun g=>g h1)] at hR
 by_cases h2 : (stcF ⟨nb,Fb,Pb⟩).1 = 0
 rotate_left
 ·rw [if_pos h2] at hR
  rw [hR] at cb h2
  generalize stcF ⟨na,Fa,Pa⟩ = q at *
  apply hQ0
  (refine Sg.h ?_;try repeat' ((first|(with_reducible first|refine brA ?_|refine brE fun _=>?_|refine spl ⟨?_,?_⟩<;>intro _)|refine clo ca ?_)<;>((try simp -implicitDefEqProofs [h1]);(try simp -implicitDefEqProofs(disch:=first|assumption|(try simp only[lens]);omega -splitDisjunctions) [h1]))))
  apply hQ0
  clear hQ0
  (refine Sg.h ?_;try repeat' ((first|(with_reducible first|refine brA ?_|refine brE fun _=>?_|refine spl ⟨?_,?_⟩<;>intro _)|refine clo cb ?_)<;>((try simp -implicitDefEqProofs [h2]);(try simp -implicitDefEqProofs(disch:=first|assumption|(try simp only[lens]);omega -splitDisjunctions) [h2]))))
 rw [if_neg (fun g=>g h2)] at hR
 apply hQ0
 (refine Sg.h ?_;try repeat' ((first|(with_reducible first|refine brA ?_|refine brE fun _=>?_|refine spl ⟨?_,?_⟩<;>intro _)|refine clo ca ?_)<;>((try simp -implicitDefEqProofs [h1]);(try simp -implicitDefEqProofs(disch:=first|assumption|(try simp only[lens]);omega -splitDisjunctions) [h1]))))
 apply hQ0
 (refine Sg.h ?_;try repeat' ((first|(with_reducible first|refine brA ?_|refine brE fun _=>?_|refine spl ⟨?_,?_⟩<;>intro _)|refine clo cb ?_)<;>((try simp -implicitDefEqProofs [h2]);(try simp -implicitDefEqProofs(disch:=first|assumption|(try simp only[lens]);omega -splitDisjunctions) [h2]))))
 apply hQ0
 (refine Sg.h ?_;try repeat' ((with_reducible first|refine brA ?_|refine brE fun _=>?_|refine spl ⟨?_,?_⟩<;>intro _)<;>((try simp -implicitDefEqProofs);(try simp -implicitDefEqProofs(disch:=first|assumption|(try simp only[lens]);omega -splitDisjunctions)))))
 refine W_of fun Q2 hQ2=>?_
 have round : ∀ (i : Nat) (N : Int) (F : List Fn) (P : List Pd),i < 2 → [[PV.int .i64 na,PV.list (Fa.map fnRow),PV.list (Pa.map pdRow)],[PV.int .i64 nb,PV.list (Fb.map fnRow),PV.list (Pb.map pdRow)]][i]? = some [PV.int .i64 N,PV.list (F.map fnRow),PV.list (P.map pdRow)] →
   (match kndF ⟨N,F,P⟩ with | some k=>R = (4,(k : Int)) | none=>Q2 [(2,.int .i64 n),(3,.ptr 0 0 0),(4,.ptr 1 0 0),(6,.ptr 2 0 0),(34,.sl 3 0 2),(35,.int .i64 2),(36,.int .i64 ((i : Int) + 1))] [.rows 3 [[.int .i64 na,.list (Fa.map fnRow),.list (Pa.map pdRow)]],.rows 3 [[.int .i64 nb,.list (Fb.map fnRow),.list (Pb.map pdRow)]],.rows 2 [[.int .i64 0,.int .i64 0]],.rows 3 [[.int .i64 na,.list (Fa.map fnRow),.list (Pa.map pdRow)],[.int .i64 nb,.list (Fb.map fnRow),.list (Pb.map pdRow)]]]) →
   Q2 [(2,.int .i64 n),(3,.ptr 0 0 0),(4,.ptr 1 0 0),(6,.ptr 2 0 0),(34,.sl 3 0 2),(35,.int .i64 2),(36,.int .i64 (i : Int))] [.rows 3 [[.int .i64 na,.list (Fa.map fnRow),.list (Pa.map pdRow)]],.rows 3 [[.int .i64 nb,.list (Fb.map fnRow),.list (Pb.map pdRow)]],.rows 2 [[.int .i64 0,.int .i64 0]],.rows 3 [[.int .i64 na,.list (Fa.map fnRow),.list (Pa.map pdRow)],[.int .i64 nb,.list (Fb.map fnRow),.list (Pb.map pdRow)]]]:=by
  intro i N F P hi hrow hnext
  have hi' : (i : Int) < 2:=by omega
  have hlt : i ≤ 1:=by omega
  have hrow:=fun h=>Option.some.inj ((List.getElem?_eq_getElem (i:=i) h).symm.trans hrow)
  unfold kndF at hnext
  dsimp only at hnext
  apply hQ2
  clear hQ2
  by_cases hF : 0 < F.length
  ·rw [if_pos hF] at hnext
   obtain rfl : R = (4,((0 : Nat) : Int)):=hnext
   have hF' : (0 : Int) < (F.length : Int):=by omega
   have l0:=la 0
   (refine Sg.h ?_;try repeat' ((first|(with_reducible first|refine brA ?_|refine brE fun _=>?_|refine spl ⟨?_,?_⟩<;>intro _)|refine clo l0 ?_)<;>((try simp -implicitDefEqProofs [hi',hlt,hi,hrow,hF']);(try simp -implicitDefEqProofs(disch:=first|assumption|(try simp only[lens]);omega -splitDisjunctions) [hi',hlt,hi,hrow,hF']))))
  rw [if_neg hF] at hnext
  have hF' : ¬ (0 : Int) < (F.length : Int):=by omega
  (refine Sg.h ?_;try repeat' ((with_reducible first|refine brA ?_|refine brE fun _=>?_|refine spl ⟨?_,?_⟩<;>intro _)<;>((try simp -implicitDefEqProofs [hi',hlt,hi,hrow,hF']);(try simp -implicitDefEqProofs(disch:=first|assumption|(try simp only[lens]);omega -splitDisjunctions) [hi',hlt,hi,hrow,hF']))))
  refine W_of fun Q4 hQ4=>?_
  have main : ∀ k j,j + k = P.length → (match arF (P.drop j) j with | some k => R = (4,(k : Int)) | none => Q2 [(2,.int .i64 n),(3,.ptr 0 0 0),(4,.ptr 1 0 0),(6,.ptr 2 0 0),(34,.sl 3 0 2),(35,.int .i64 2),(36,.int .i64 ((i : Int) + 1))] [.rows 3 [[.int .i64 na,.list (Fa.map fnRow),.list (Pa.map pdRow)]],.rows 3 [[.int .i64 nb,.list (Fb.map fnRow),.list (Pb.map pdRow)]],.rows 2 [[.int .i64 0,.int .i64 0]],.rows 3 [[.int .i64 na,.list (Fa.map fnRow),.list (Pa.map pdRow)],[.int .i64 nb,.list (Fb.map fnRow),.list (Pb.map pdRow)]]]) →
    Q4 [(2,.int .i64 n),(3,.ptr 0 0 0),(4,.ptr 1 0 0),(6,.ptr 2 0 0),(34,.sl 3 0 2),(35,.int .i64 2),(36,.int .i64 (i : Int)),(46,.list (P.map pdRow)),(47,.int .i64 (P.length : Int)),(48,.int .i64 (j : Int))] [.rows 3 [[.int .i64 na,.list (Fa.map fnRow),.list (Pa.map pdRow)]],.rows 3 [[.int .i64 nb,.list (Fb.map fnRow),.list (Pb.map pdRow)]],.rows 2 [[.int .i64 0,.int .i64 0]],.rows 3 [[.int .i64 na,.list (Fa.map fnRow),.list (Pa.map pdRow)],[.int .i64 nb,.list (Fb.map fnRow),.list (Pb.map pdRow)]]]:=by
   intro k
   induction k with
   | zero=>
    intro j hj hnext
    obtain rfl : j = P.length:=by omega
    rw [List.drop_length] at hnext
    have hnext : Q2 _ _:=hnext
    apply hQ4
    clear hQ4
    (refine Sg.h ?_;try repeat' ((with_reducible first|refine brA ?_|refine brE fun _=>?_|refine spl ⟨?_,?_⟩<;>intro _)<;>((try simp -implicitDefEqProofs);(try simp -implicitDefEqProofs(disch:=first|assumption|(try simp only[lens]);omega -splitDisjunctions)))))
    all_goals first|exact hnext|(refine at2 hnext ?_ ?_<;>simp;done)|(exfalso;first|omega|(simp_all;done)|(simp_all;omega))
   | succ k ih=>
    intro j hj hnext
    have hjl : j < P.length:=by omega
    have hj' : (j : Int) < (P.length : Int):=by omega
    have ih:=ih (j + 1) (by omega)
    rw [List.drop_eq_getElem_cons hjl,arF] at hnext
    generalize hx : P[j] = p at *
    apply hQ4
    clear hQ4
    by_cases h2 : 2 < p.ar
    ·rw [if_pos h2] at hnext
     obtain rfl : R = (4,(j : Int)):=hnext
     have lj:=la j
     (refine Sg.h ?_;try repeat' ((first|(with_reducible first|refine brA ?_|refine brE fun _=>?_|refine spl ⟨?_,?_⟩<;>intro _)|refine clo lj ?_)<;>((try simp -implicitDefEqProofs [hj',hjl,hx,h2]);(try simp -implicitDefEqProofs(disch:=first|assumption|(try simp only[lens]);omega -splitDisjunctions) [hj',hjl,hx,h2]))))
    ·rw [if_neg h2] at hnext
     have ih:=ih hnext
     (refine Sg.h ?_;try repeat' ((with_reducible first|refine brA ?_|refine brE fun _=>?_|refine spl ⟨?_,?_⟩<;>intro _)<;>((try simp -implicitDefEqProofs [hj',hjl,hx,h2]);(try simp -implicitDefEqProofs(disch:=first|assumption|(try simp only[lens]);omega -splitDisjunctions) [hj',hjl,hx,h2]))))
     all_goals first|exact ih|(refine at2 ih ?_ ?_<;>simp;done)|(exfalso;first|omega|(simp_all;done)|(simp_all;omega))
  all_goals first|exact main P.length 0 (Nat.zero_add _) hnext|(refine at2 main P.length 0 (Nat.zero_add _) hnext ?_ ?_<;>simp;done)|(exfalso;first|omega|(simp_all;done)|(simp_all;omega))
 refine round 0 na Fa Pa (by omega) rfl ?_
 cases k1 : kndF ⟨na,Fa,Pa⟩ with
 | some k=>rw [k1] at hR;exact hR.symm
 | none=>
 rw [k1] at hR
 dsimp only at hR ⊢
 refine round 1 nb Fb Pb (by omega) rfl ?_
 cases k2 : kndF ⟨nb,Fb,Pb⟩ with
 | some k=>rw [k2] at hR;exact hR.symm
 | none=>
 rw [k2] at hR
 dsimp only at hR ⊢
 clear round k1 k2 ca cb la hQ0
 apply hQ2
 clear hQ2
 have l9:=fun i=>hf 9 i
 by_cases hl : Pa.length = Pb.length
 rotate_left
 ·rw [if_pos hl] at hR
  subst hR
  have l0:=l9 0
  have hl' : ¬ (Pa.length : Int) = (Pb.length : Int):=by omega
  (refine Sg.h ?_;try repeat' ((first|(with_reducible first|refine brA ?_|refine brE fun _=>?_|refine spl ⟨?_,?_⟩<;>intro _)|refine clo l0 ?_)<;>((try simp -implicitDefEqProofs [hl']);(try simp -implicitDefEqProofs(disch:=first|assumption|(try simp only[lens]);omega -splitDisjunctions) [hl']))))
 rw [if_neg (fun g=>g hl)] at hR
 have hl' : (Pa.length : Int) = (Pb.length : Int):=by omega
 (refine Sg.h ?_;try repeat' ((with_reducible first|refine brA ?_|refine brE fun _=>?_|refine spl ⟨?_,?_⟩<;>intro _)<;>((try simp -implicitDefEqProofs [hl']);(try simp -implicitDefEqProofs(disch:=first|assumption|(try simp only[lens]);omega -splitDisjunctions) [hl']))))
 refine W_of fun Q6 hQ6=>?_
 have main : ∀ k i,i + k = Pb.length → (match nmF (Pa.drop i) (Pb.drop i) i with | some i => (9,(i : Int)) | none => if n < 0 ∨ 4 < n then (3,0) else (0,0)) = R →
   Q6 [(2,.int .i64 n),(4,.ptr 0 0 0),(6,.ptr 1 0 0),(69,.list (Pa.map pdRow)),(70,.int .i64 (Pb.length : Int)),(71,.int .i64 (i : Int))] [.rows 3 [[.int .i64 nb,.list (Fb.map fnRow),.list (Pb.map pdRow)]],.rows 2 [[.int .i64 0,.int .i64 0]]]:=by
  intro k
  induction k with
  | zero=>
   intro i hi hR
   obtain rfl : i = Pb.length:=by omega
   rw [List.drop_of_length_le (by omega),show ∀ l i,nmF [] l i = none from fun l i=>by cases l <;> rfl] at hR
   dsimp only at hR
   apply hQ6
   clear hQ6
   have h3:=hf 3 0
   by_cases n1 : n < 0
   ·rw [if_pos (.inl n1)] at hR
    subst hR
    (refine Sg.h ?_;try repeat' ((first|(with_reducible first|refine brA ?_|refine brE fun _=>?_|refine spl ⟨?_,?_⟩<;>intro _)|refine clo h3 ?_)<;>((try simp -implicitDefEqProofs [n1]);(try simp -implicitDefEqProofs(disch:=first|assumption|(try simp only[lens]);omega -splitDisjunctions) [n1]))))
   by_cases n2 : 4 < n
   ·rw [if_pos (.inr n2)] at hR
    subst hR
    (refine Sg.h ?_;try repeat' ((first|(with_reducible first|refine brA ?_|refine brE fun _=>?_|refine spl ⟨?_,?_⟩<;>intro _)|refine clo h3 ?_)<;>((try simp -implicitDefEqProofs [n1,n2]);(try simp -implicitDefEqProofs(disch:=first|assumption|(try simp only[lens]);omega -splitDisjunctions) [n1,n2]))))
   ·rw [if_neg (fun g => g.elim n1 n2)] at hR
    subst hR
    (refine Sg.h ?_;try repeat' ((with_reducible first|refine brA ?_|refine brE fun _=>?_|refine spl ⟨?_,?_⟩<;>intro _)<;>((try simp -implicitDefEqProofs [n1,n2]);(try simp -implicitDefEqProofs(disch:=first|assumption|(try simp only[lens]);omega -splitDisjunctions) [n1,n2]))))
  | succ k ih=>
   intro i hi hR
   have hil : i < Pb.length:=by omega
   have hil2 : i < Pa.length:=by omega
   have hi' : (i : Int) < (Pb.length : Int):=by omega
   have ih:=ih (i + 1) (by omega)
   rw [List.drop_eq_getElem_cons hil,List.drop_eq_getElem_cons hil2,nmF] at hR
   generalize hx1 : Pa[i] = p at *
   generalize hx2 : Pb[i] = q at *
   apply hQ6
   clear hQ6
   have l:=l9 i
   by_cases e1 : p.name = q.name
   ·by_cases e2 : p.ar = q.ar
    ·rw [if_neg (fun g => g.elim (fun g => g e1) (fun g => g e2))] at hR
     have ih:=ih hR
     (refine Sg.h ?_;try repeat' ((with_reducible first|refine brA ?_|refine brE fun _=>?_|refine spl ⟨?_,?_⟩<;>intro _)<;>((try simp -implicitDefEqProofs [hi',hil,hil2,hx1,hx2,e1,e2]);(try simp -implicitDefEqProofs(disch:=first|assumption|(try simp only[lens]);omega -splitDisjunctions) [hi',hil,hil2,hx1,hx2,e1,e2]))))
     all_goals first|exact ih|(refine at2 ih ?_ ?_<;>simp;done)|(exfalso;first|omega|(simp_all;done)|(simp_all;omega))
    ·rw [if_pos (.inr e2)] at hR
     subst hR
     (refine Sg.h ?_;try repeat' ((first|(with_reducible first|refine brA ?_|refine brE fun _=>?_|refine spl ⟨?_,?_⟩<;>intro _)|refine clo l ?_)<;>((try simp -implicitDefEqProofs [hi',hil,hil2,hx1,hx2,e1,e2]);(try simp -implicitDefEqProofs(disch:=first|assumption|(try simp only[lens]);omega -splitDisjunctions) [hi',hil,hil2,hx1,hx2,e1,e2]))))
   ·rw [if_pos (.inl e1)] at hR
    subst hR
    (refine Sg.h ?_;try repeat' ((first|(with_reducible first|refine brA ?_|refine brE fun _=>?_|refine spl ⟨?_,?_⟩<;>intro _)|refine clo l ?_)<;>((try simp -implicitDefEqProofs [hi',hil,hil2,hx1,hx2,e1]);(try simp -implicitDefEqProofs(disch:=first|assumption|(try simp only[lens]);omega -splitDisjunctions) [hi',hil,hil2,hx1,hx2,e1]))))
 all_goals first|exact main Pb.length 0 (Nat.zero_add _) hR|(refine at2 main Pb.length 0 (Nat.zero_add _) hR ?_ ?_<;>simp;done)|(exfalso;first|omega|(simp_all;done)|(simp_all;omega))
theorem gameF_zero {a b : Stc} {n : Int} (h : (gameF a b n).1 = 0) : (stcF a).1 = 0 ∧ (stcF b).1 = 0 ∧ a.funs = [] ∧ b.funs = [] ∧ (∀ p ∈ a.preds,p.ar ≤ 2) ∧ (∀ p ∈ b.preds,p.ar ≤ 2) ∧ a.preds.map Pd.ar = b.preds.map Pd.ar ∧ a.preds.map Pd.name = b.preds.map Pd.name ∧ 0 ≤ n ∧ n ≤ 4 ∧ gameF a b n = (0,0):=by
 have arN : ∀ (P : List Pd) i,arF P i = none → ∀ p ∈ P,p.ar ≤ 2:=by
  intro P
  induction P with
  | nil=>intro i _ p hp;cases hp
  | cons q r ih=>
   intro i h p hp
   unfold arF at h
   split at h
   ·cases h
   ·rcases List.mem_cons.1 hp with rfl | hp
    ·omega
    ·exact ih _ h p hp
 have kn : ∀ S,kndF S = none → S.funs = [] ∧ ∀ p ∈ S.preds,p.ar ≤ 2:=by
  intro S h
  unfold kndF at h
  split at h
  ·cases h
  ·exact ⟨List.length_eq_zero_iff.1 (by omega),arN _ _ h⟩
 have nm : ∀ (P Q : List Pd) i,P.length = Q.length → nmF P Q i = none → P.map Pd.ar = Q.map Pd.ar ∧ P.map Pd.name = Q.map Pd.name:=by
  intro P
  induction P with
  | nil=>intro Q i hl _;cases Q with | nil=>exact ⟨rfl,rfl⟩ | cons=>cases hl
  | cons p r ih=>
   intro Q i hl h
   cases Q with
   | nil=>cases hl
   | cons q t=>
    unfold nmF at h
    split at h
    ·cases h
    ·rename_i hne
     obtain ⟨h1,h2⟩:=ih t (i + 1) (by simpa using hl) h
     have e1 : p.name = q.name:=Classical.byContradiction fun g=>hne (.inl g)
     have e2 : p.ar = q.ar:=Classical.byContradiction fun g=>hne (.inr g)
     simp [h1,h2,e1,e2]
 have h0:=h
 unfold gameF at h
 by_cases h1 : (stcF a).1 = 0
 rotate_left
 ·rw [if_pos h1] at h;exact absurd h h1
 rw [if_neg (fun g=>g h1)] at h
 by_cases h2 : (stcF b).1 = 0
 rotate_left
 ·rw [if_pos h2] at h;exact absurd h h2
 rw [if_neg (fun g=>g h2)] at h
 cases k1 : kndF a with
 | some k=>rw [k1] at h;cases h
 | none=>
 rw [k1] at h
 cases k2 : kndF b with
 | some k=>rw [k2] at h;cases h
 | none=>
 rw [k2] at h
 dsimp only at h
 by_cases hl : a.preds.length = b.preds.length
 rotate_left
 ·rw [if_pos hl] at h;cases h
 rw [if_neg (fun g=>g hl)] at h
 cases hn : nmF a.preds b.preds 0 with
 | some k=>rw [hn] at h;cases h
 | none=>
 rw [hn] at h
 dsimp only at h
 by_cases hr : n < 0 ∨ 4 < n
 ·rw [if_pos hr] at h;cases h
 obtain ⟨f1,a1⟩:=kn a k1
 obtain ⟨f2,a2⟩:=kn b k2
 obtain ⟨m1,m2⟩:=nm _ _ _ hl hn
 refine ⟨h1,h2,f1,f2,a1,a2,m1,m2,by omega,by omega,?_⟩
 unfold gameF
 rw [if_neg (fun g=>g h1),if_neg (fun g=>g h2),k1,k2]
 dsimp only
 rw [if_neg (fun g=>g hl),hn]
 dsimp only
 rw [if_neg hr]
def winB (a b : Stc) (n : Int) : Bool:=if (gameF a b n).1 = 0 then winF a.n.toNat b.n.toNat a.preds b.preds n.toNat [] [] else false
theorem preds_ok {S : Stc} (h : (stcF S).1 = 0) : ∀ p ∈ S.preds,0 ≤ p.ar ∧ p.bits.length = S.n.toNat ^ p.ar.toNat:=by
 obtain ⟨s0,s8,sF,sP,snF,snP,sOF,sOP,sz⟩:=stcF_zero h
 intro p hp
 obtain ⟨p1,p2,p3⟩:=bitF_zero (sOP p hp)
 refine ⟨p1,?_⟩
 have : ((S.n.toNat : Nat) : Int) = S.n:=by omega
 rw [← this,← Int.natCast_pow] at p3
 exact Int.ofNat.inj p3
theorem memG_nil {A B : Nat} {P Q : List Pd} : MemG A B P Q []:=⟨(fun p h=>nomatch h),(fun p h=>nomatch h)⟩
def x8 : XC:=.seq (.reg [⟨some 3,.box 25 (.tmp 0),none⟩,⟨some 4,.box 25 (.tmp 1),none⟩,⟨some 6,.assign (.const (.bool false)),none⟩,⟨some 7,.alloc 33,none⟩]) (.seq (.seq (.reg [⟨some 10,.load 25 (.tmp 3),none⟩,⟨some 11,.load 25 (.tmp 4),none⟩,⟨some 12,.move (.tmp 2),none⟩,⟨some 13,.call ⟨.value (.func 16),#[.tmp 10,.tmp 11,.tmp 12],#[25,25,3]⟩,none⟩,⟨some 8,.alloc 33,none⟩,⟨none,.store 33 (.tmp 8) (.tmp 13),none⟩]) (.seq (.reg [⟨some 14,.fieldAddr 33 (.tmp 8) 0,none⟩,⟨some 15,.load 3 (.tmp 14),none⟩,⟨some 16,.binOp .neq 3 (.tmp 15) (.const (.int .i64 0)) 3,none⟩]) (.cond (.tmp 16) (.seq (.drawn 3 [⟨some 17,.load 33 (.tmp 8),none⟩,⟨some 6,.assign (.const (.bool false)),none⟩,⟨none,.store 33 (.tmp 7) (.tmp 17),none⟩]) .ret) .skip))) (.seq (.reg [⟨some 18,.load 25 (.tmp 3),none⟩,⟨some 19,.load 25 (.tmp 4),none⟩,⟨some 20,.makeMap 47 none,none⟩,⟨some 21,.build 49 #[(0,.tmp 18),(1,.tmp 19),(2,.tmp 20)],none⟩,⟨some 22,.box 49 (.tmp 21),none⟩,⟨some 9,.assign (.tmp 22),none⟩]) (.seq (.reg [⟨some 23,.move (.tmp 9),none⟩,⟨some 24,.build 53 #[],none⟩,⟨some 25,.move (.tmp 2),none⟩,⟨some 26,.call ⟨.value (.func 17),#[.tmp 23,.tmp 24,.tmp 25],#[46,53,3]⟩,none⟩,⟨some 27,.build 33 #[],none⟩,⟨some 6,.assign (.tmp 26),none⟩,⟨none,.store 33 (.tmp 7) (.tmp 27),none⟩]) .ret)))
@[simp] theorem x8_s {C e s K} : type_of% (@X_at C e s K _ _ x8.eq_1):=X_at x8.eq_1
def an8 : Ann:=⟨[],[],[]⟩
@[simp] theorem an8_a : an8.clsOf 3 = .draw ∧ an8.frzOf 3 = []:=⟨rfl,rfl⟩
theorem fi8 : FI Try.prog 8 (cxA an8) x8 [.tmp 6,.cell 7 33] Try.f8:=fiA Try.func8 mixed
theorem Wins_games (a b : Stc) (n : Int) : CallOK Try.prog 8 [.agg (stc a),.agg (stc b),.int .i64 n] [] (.tuple [.bool (winB a b n),.agg [.int .i64 (gameF a b n).1,.int .i64 (gameF a b n).2]]) []:=by
 have cl:=look_games a b n
 unfold winB
 by_cases h : (gameF a b n).1 = 0
 rotate_left
 ·rw [if_neg h]
  generalize gameF a b n = R at *
  unfold stc at *
  refine fi8.op ?_
  (refine Sg.h ?_;try repeat' ((first|(with_reducible first|refine brA ?_|refine brE fun _=>?_|refine spl ⟨?_,?_⟩<;>intro _)|refine clo cl ?_)<;>((try simp -implicitDefEqProofs [h]);(try simp -implicitDefEqProofs(disch:=first|assumption|(try simp only[lens]);omega -splitDisjunctions) [h]))))
 rw [if_pos h]
 obtain ⟨a1,b1,f1,f2,p1,p2,q1,q2,n1,n2,z⟩:=gameF_zero h
 rw [z] at cl ⊢
 obtain ⟨s0,s8,_⟩:=stcF_zero a1
 obtain ⟨t0,t8,_⟩:=stcF_zero b1
 obtain ⟨m,rfl⟩ : ∃ m : Nat,n = (m : Int):=⟨n.toNat,by omega⟩
 have hw:=wins_games a.n.toNat b.n.toNat a.preds b.preds (by omega) (by omega) (preds_ok a1) (preds_ok b1) q1 m [] [] (by simp;omega) rfl (fun x h=>by cases h) (fun x h=>by cases h) [] memG_nil
 have hs:=winS_spec (A:=a.n.toNat) (B:=b.n.toNat) (P:=a.preds) (Q:=b.preds) (by omega) (by omega) m [] [] (by simp;omega) rfl (fun x h=>by cases h) (fun x h=>by cases h) [] memG_nil
 rw [hs.1] at hw
 rw [Int.toNat_natCast]
 generalize (winS a.n.toNat b.n.toNat a.preds b.preds m [] [] []).2 = es at *
 generalize winF a.n.toNat b.n.toNat a.preds b.preds m [] [] = w at *
 clear hs p1 p2 q1 q2 z h a1 b1
 obtain ⟨na,Fa,Pa⟩:=a
 obtain ⟨nb,Fb,Pb⟩:=b
 dsimp only at *
 subst f1 f2
 obtain ⟨A,rfl⟩ : ∃ A : Nat,na = (A : Int):=⟨na.toNat,by omega⟩
 obtain ⟨B,rfl⟩ : ∃ B : Nat,nb = (B : Int):=⟨nb.toNat,by omega⟩
 rw [Int.toNat_natCast,Int.toNat_natCast] at hw
 unfold stc at *
 refine fi8.op ?_
 (refine Sg.h ?_;try repeat' ((first|(with_reducible first|refine brA ?_|refine brE fun _=>?_|refine spl ⟨?_,?_⟩<;>intro _)|refine clo cl ?_)<;>((try simp -implicitDefEqProofs);(try simp -implicitDefEqProofs(disch:=first|assumption|(try simp only[lens]);omega -splitDisjunctions)))))
 refine CL.sub [5,4] (s2:=stB A B Pa Pb es) (v:=.bool w) (by simpa [liveS,memP,ci,posC,padI] using hw) ?_
 (refine Sg.h ?_;try repeat' ((with_reducible first|refine brA ?_|refine brE fun _=>?_|refine spl ⟨?_,?_⟩<;>intro _)<;>((try simp -implicitDefEqProofs);(try simp -implicitDefEqProofs(disch:=first|assumption|(try simp only[lens]);omega -splitDisjunctions)))))
end Go.Proofs.Ytfhakdonenhnbaa
namespace Go.Proofs.Ytfhakdonenhnbaa
open Go Go.Pv
theorem callOK_softG {P : Program} {f : FuncId} {args args' : List PV} {v : PV} {s s' : Store} (h : CallOK P f args' s v s') (hs : SoftL args' args) : CallOK P f args s v s':=by
 intro pub σ w cargs hb ha
 have hg:=hs.get (pub:=pub)
 refine h pub σ w cargs hb ⟨by rw [ha.1,hg.1],fun j x y hx hy=>?_⟩
 have hjl:=lt_of_getElem? hx
 have hyj : args[j]? = some (args[j]'(by have:=hg.1;omega)):=List.getElem?_eq_getElem _
 exact hg.2 j x _ hx hyj σ y (ha.2 j _ y hyj hy)
theorem begun1 : gameF ⟨1,[],[]⟩ ⟨2,[],[]⟩ 1 = (0,0) ∧ winB ⟨1,[],[]⟩ ⟨2,[],[]⟩ 1 = true:=⟨by kernel_rfl,by kernel_rfl⟩
theorem begun2 : gameF ⟨1,[],[]⟩ ⟨2,[],[]⟩ 2 = (0,0) ∧ winB ⟨1,[],[]⟩ ⟨2,[],[]⟩ 2 = false:=⟨by kernel_rfl,by kernel_rfl⟩
def x6 : XC:=.seq (.reg [⟨some 0,.assign (.const (.bool false)),none⟩]) (.seq (.reg [⟨some 6,.build 25 #[(0,.const (.int .i64 1))],none⟩,⟨some 7,.build 25 #[(0,.const (.int .i64 2))],none⟩,⟨some 8,.call ⟨.value (.func 8),#[.tmp 6,.tmp 7,.const (.int .i64 1)],#[25,25,3]⟩,none⟩,⟨some 5,.move (.tmp 8),none⟩,⟨some 9,.extract (.tmp 5) 0,none⟩,⟨some 10,.extract (.tmp 5) 1,none⟩,⟨some 2,.alloc 33,none⟩,⟨some 1,.assign (.tmp 9),none⟩,⟨none,.store 33 (.tmp 2) (.tmp 10),none⟩]) (.seq (.reg [⟨some 12,.build 25 #[(0,.const (.int .i64 1))],none⟩,⟨some 13,.build 25 #[(0,.const (.int .i64 2))],none⟩,⟨some 14,.call ⟨.value (.func 8),#[.tmp 12,.tmp 13,.const (.int .i64 2)],#[25,25,3]⟩,none⟩,⟨some 11,.move (.tmp 14),none⟩,⟨some 15,.extract (.tmp 11) 0,none⟩,⟨some 16,.extract (.tmp 11) 1,none⟩,⟨some 4,.alloc 33,none⟩,⟨some 3,.assign (.tmp 15),none⟩,⟨none,.store 33 (.tmp 4) (.tmp 16),none⟩]) (.seq (.reg [⟨some 17,.fieldAddr 33 (.tmp 2) 0,none⟩,⟨some 18,.load 3 (.tmp 17),none⟩,⟨some 19,.binOp .eql 3 (.tmp 18) (.const (.int .i64 0)) 3,none⟩,⟨some 20,.move (.tmp 19),none⟩,⟨some 21,.fieldAddr 33 (.tmp 4) 0,some (some 20,true)⟩,⟨some 22,.load 3 (.tmp 21),some (some 20,true)⟩,⟨some 23,.binOp .eql 3 (.tmp 22) (.const (.int .i64 0)) 3,some (some 20,true)⟩,⟨some 24,.pick (.tmp 20) (.tmp 23) (.const (.bool false)),none⟩,⟨some 25,.move (.tmp 24),none⟩,⟨some 26,.move (.tmp 1),some (some 25,true)⟩,⟨some 27,.pick (.tmp 25) (.tmp 26) (.const (.bool false)),none⟩,⟨some 28,.move (.tmp 27),none⟩,⟨some 29,.move (.tmp 3),some (some 28,true)⟩,⟨some 30,.unOp .not 4 (.tmp 29),some (some 28,true)⟩,⟨some 31,.pick (.tmp 28) (.tmp 30) (.const (.bool false)),none⟩,⟨some 0,.assign (.tmp 31),none⟩]) .ret)))
@[simp] theorem x6_s {C e s K} : type_of% (@X_at C e s K _ _ x6.eq_1):=X_at x6.eq_1
def an6 : Ann:=⟨[],[],[]⟩
theorem fi6 : FI Try.prog 6 (cxA an6) x6 [.tmp 0] Try.f6:=fiA Try.func6 mixed
theorem gamesBegun_law : CallOK Try.prog 6 [] [] (.bool true) []:=by
 have h1:=Wins_games ⟨1,[],[]⟩ ⟨2,[],[]⟩ 1
 have h2:=Wins_games ⟨1,[],[]⟩ ⟨2,[],[]⟩ 2
 rw [begun1.1,begun1.2] at h1
 rw [begun2.1,begun2.2] at h2
 have h1:=callOK_softG (args:=[.agg [.int .i64 1,.nilsl,.nilsl],.agg [.int .i64 2,.nilsl,.nilsl],.int .i64 1]) h1 (.cons (.agg (.cons .refl (.cons .nil (.cons .nil .nil)))) (.cons (.agg (.cons .refl (.cons .nil (.cons .nil .nil)))) (.cons .refl .nil)))
 have h2:=callOK_softG (args:=[.agg [.int .i64 1,.nilsl,.nilsl],.agg [.int .i64 2,.nilsl,.nilsl],.int .i64 2]) h2 (.cons (.agg (.cons .refl (.cons .nil (.cons .nil .nil)))) (.cons (.agg (.cons .refl (.cons .nil (.cons .nil .nil)))) (.cons .refl .nil)))
 refine fi6.op ?_
 (refine Sg.h ?_;try repeat' ((first|(with_reducible first|refine brA ?_|refine brE fun _=>?_|refine spl ⟨?_,?_⟩<;>intro _)|refine clo h1 ?_|refine clo h2 ?_)<;>((try simp -implicitDefEqProofs);(try simp -implicitDefEqProofs(disch:=first|assumption|(try simp only[lens]);omega -splitDisjunctions)))))
end Go.Proofs.Ytfhakdonenhnbaa
