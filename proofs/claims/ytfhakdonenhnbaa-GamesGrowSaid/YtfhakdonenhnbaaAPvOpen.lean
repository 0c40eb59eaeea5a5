import Derived.Test.YtfhakdonenhnbaaAGaQ
import Derived.Test.YtfhakdonenhnbaaAPvGive
import Derived.DataReads
import Derived.ChangeShapes
set_option linter.unusedVariables false
set_option linter.unusedSimpArgs false
set_option maxRecDepth 100000
set_option maxHeartbeats 4000000
namespace Go.Proofs.Ytfhakdonenhnbaa
open Go Go.Pv
theorem gameF_of {a b : Stc} {n : Int} (h1 : (stcF a).1 = 0) (h2 : (stcF b).1 = 0) (f1 : a.funs = []) (f2 : b.funs = []) (p1 : ∀ p ∈ a.preds,p.ar ≤ 2) (p2 : ∀ p ∈ b.preds,p.ar ≤ 2) (q1 : a.preds.map Pd.ar = b.preds.map Pd.ar)
  (q2 : a.preds.map Pd.name = b.preds.map Pd.name) (n1 : 0 ≤ n) (n2 : n ≤ 4) : gameF a b n = (0,0):=by
 have arN : ∀ (P : List Pd) i,(∀ p ∈ P,p.ar ≤ 2) → arF P i = none:=by
  intro P
  induction P with
  | nil=>intro i _;rfl
  | cons q r ih=>
   intro i h
   unfold arF
   rw [if_neg (by have:=h q (by simp);omega)]
   exact ih _ fun p hp=>h p (by simp [hp])
 have nm : ∀ (P Q : List Pd) i,P.map Pd.ar = Q.map Pd.ar → P.map Pd.name = Q.map Pd.name → nmF P Q i = none:=by
  intro P
  induction P with
  | nil=>intro Q i _ _;cases Q <;> rfl
  | cons p r ih=>
   intro Q i h g
   cases Q with
   | nil=>cases h
   | cons q t=>
    simp only [List.map_cons,List.cons.injEq] at h g
    unfold nmF
    rw [if_neg (fun e=>e.elim (fun e=>e g.1) (fun e=>e h.1))]
    exact ih t _ h.2 g.2
 unfold gameF
 rw [if_neg (fun g=>g h1),if_neg (fun g=>g h2)]
 have k1 : kndF a = none:=by unfold kndF;rw [f1,if_neg (by simp)];exact arN _ _ p1
 have k2 : kndF b = none:=by unfold kndF;rw [f2,if_neg (by simp)];exact arN _ _ p2
 rw [k1,k2]
 dsimp only
 have hl : a.preds.length = b.preds.length:=by simpa using congrArg List.length q1
 rw [if_neg (fun g=>g hl),nm _ _ _ q1 q2]
 dsimp only
 rw [if_neg (by omega)]
theorem winB_of {a b : Stc} {n : Int} (h : gameF a b n = (0,0)) : winB a b n = winF a.n.toNat b.n.toNat a.preds b.preds n.toNat [] []:=by unfold winB;rw [h,if_pos rfl]
theorem grow_plain {a b c : Stc} {n : Int} (h1 : (gameF a b n).1 = 0) (h2 : (gameF b c n).1 = 0) : gameF a b n = (0,0) ∧ gameF b c n = (0,0) ∧ gameF b a n = (0,0) ∧ gameF a a n = (0,0) ∧ gameF a c n = (0,0) ∧ (0 < n → gameF a b (n - 1) = (0,0)) ∧
  winB b a n = winB a b n ∧ winB a a n = true ∧ (0 < n → winB a b n = true → winB a b (n - 1) = true) ∧ (winB a b n = true → winB b c n = true → winB a c n = true):=by
 obtain ⟨a1,a2,f1,f2,p1,p2,q1,q2,n1,n2,z1⟩:=gameF_zero h1
 obtain ⟨b1,b2,g1,g2,r1,r2,s1,s2,_,_,z2⟩:=gameF_zero h2
 have e1:=gameF_of a2 a1 f2 f1 p2 p1 q1.symm q2.symm n1 n2
 have e2:=gameF_of a1 a1 f1 f1 p1 p1 rfl rfl n1 n2
 have e3:=gameF_of a1 b2 f1 g2 p1 r2 (q1.trans s1) (q2.trans s2) n1 n2
 have e4:=fun (h : 0 < n)=>gameF_of (n:=n - 1) a1 a2 f1 f2 p1 p2 q1 q2 (by omega) (by omega)
 refine ⟨z1,z2,e1,e2,e3,e4,?_,?_,?_,?_⟩
 ·rw [winB_of e1,winB_of z1,Bool.eq_iff_iff]
  exact ⟨fun h=>winF_symm rfl q1.symm h,fun h=>winF_symm rfl q1 h⟩
 ·rw [winB_of e2];exact winF_refl
 ·intro hn h
  rw [winB_of z1] at h
  rw [winB_of (e4 hn)]
  obtain ⟨k,rfl⟩ : ∃ k : Nat,n = (k : Int) + 1:=⟨(n - 1).toNat,by omega⟩
  rw [show ((k : Int) + 1).toNat = k + 1 by omega] at h
  rw [show ((k : Int) + 1 - 1).toNat = k by omega]
  exact winF_less h
 ·intro h g
  rw [winB_of z1] at h
  rw [winB_of z2] at g
  rw [winB_of e3]
  exact winF_trans rfl q1 s1 h g
def x5 : XC:=.seq (.reg [⟨some 4,.box 25 (.tmp 0),none⟩,⟨some 5,.box 25 (.tmp 1),none⟩,⟨some 6,.box 25 (.tmp 2),none⟩,⟨some 8,.assign (.const (.bool false)),none⟩]) (.seq (.seq (.reg [⟨some 19,.call ⟨.value (.func 6),#[],#[]⟩,none⟩,⟨some 20,.unOp .not 4 (.tmp 19),none⟩]) (.cond (.tmp 20) (.seq (.reg [⟨some 8,.assign (.const (.bool false)),none⟩]) .ret) .skip)) (.seq (.seq (.reg [⟨some 21,.load 25 (.tmp 4),none⟩,⟨some 22,.load 25 (.tmp 5),none⟩,⟨some 23,.move (.tmp 3),none⟩,⟨some 24,.call ⟨.value (.func 14),#[.tmp 21,.tmp 22,.tmp 23],#[25,25,3]⟩,none⟩,⟨some 25,.field 33 (.tmp 24) 0,none⟩,⟨some 26,.binOp .neq 3 (.tmp 25) (.const (.int .i64 0)) 3,none⟩,⟨some 27,.move (.tmp 26),none⟩,⟨some 28,.load 25 (.tmp 5),some (some 27,false)⟩,⟨some 29,.load 25 (.tmp 6),some (some 27,false)⟩,⟨some 30,.move (.tmp 3),some (some 27,false)⟩,⟨some 31,.call ⟨.value (.func 14),#[.tmp 28,.tmp 29,.tmp 30],#[25,25,3]⟩,some (some 27,false)⟩,⟨some 32,.field 33 (.tmp 31) 0,some (some 27,false)⟩,⟨some 33,.binOp .neq 3 (.tmp 32) (.const (.int .i64 0)) 3,some (some 27,false)⟩,⟨some 34,.pick (.tmp 27) (.const (.bool true)) (.tmp 33),none⟩,⟨some 35,.move (.tmp 34),none⟩,⟨some 36,.move (.tmp 3),some (some 35,false)⟩,⟨some 37,.binOp .gtr 3 (.tmp 36) (.const (.int .i64 3)) 3,some (some 35,false)⟩,⟨some 38,.pick (.tmp 35) (.const (.bool true)) (.tmp 37),none⟩]) (.cond (.tmp 38) (.seq (.reg [⟨some 8,.assign (.const (.bool true)),none⟩]) .ret) .skip)) (.seq (.reg [⟨some 40,.load 25 (.tmp 4),none⟩,⟨some 41,.load 25 (.tmp 5),none⟩,⟨some 42,.move (.tmp 3),none⟩,⟨some 43,.call ⟨.value (.func 8),#[.tmp 40,.tmp 41,.tmp 42],#[25,25,3]⟩,none⟩,⟨some 39,.move (.tmp 43),none⟩,⟨some 44,.extract (.tmp 39) 0,none⟩,⟨some 45,.extract (.tmp 39) 1,none⟩,⟨some 10,.alloc 33,none⟩,⟨some 9,.assign (.tmp 44),none⟩,⟨none,.store 33 (.tmp 10) (.tmp 45),none⟩]) (.seq (.reg [⟨some 47,.load 25 (.tmp 5),none⟩,⟨some 48,.load 25 (.tmp 4),none⟩,⟨some 49,.move (.tmp 3),none⟩,⟨some 50,.call ⟨.value (.func 8),#[.tmp 47,.tmp 48,.tmp 49],#[25,25,3]⟩,none⟩,⟨some 46,.move (.tmp 50),none⟩,⟨some 51,.extract (.tmp 46) 0,none⟩,⟨some 52,.extract (.tmp 46) 1,none⟩,⟨some 12,.alloc 33,none⟩,⟨some 11,.assign (.tmp 51),none⟩,⟨none,.store 33 (.tmp 12) (.tmp 52),none⟩]) (.seq (.reg [⟨some 54,.load 25 (.tmp 4),none⟩,⟨some 55,.load 25 (.tmp 4),none⟩,⟨some 56,.move (.tmp 3),none⟩,⟨some 57,.call ⟨.value (.func 8),#[.tmp 54,.tmp 55,.tmp 56],#[25,25,3]⟩,none⟩,⟨some 53,.move (.tmp 57),none⟩,⟨some 58,.extract (.tmp 53) 0,none⟩,⟨some 59,.extract (.tmp 53) 1,none⟩,⟨some 14,.alloc 33,none⟩,⟨some 13,.assign (.tmp 58),none⟩,⟨none,.store 33 (.tmp 14) (.tmp 59),none⟩]) (.seq (.seq (.reg [⟨some 60,.fieldAddr 33 (.tmp 10) 0,none⟩,⟨some 61,.load 3 (.tmp 60),none⟩,⟨some 62,.binOp .neq 3 (.tmp 61) (.const (.int .i64 0)) 3,none⟩,⟨some 63,.move (.tmp 62),none⟩,⟨some 64,.fieldAddr 33 (.tmp 12) 0,some (some 63,false)⟩,⟨some 65,.load 3 (.tmp 64),some (some 63,false)⟩,⟨some 66,.binOp .neq 3 (.tmp 65) (.const (.int .i64 0)) 3,some (some 63,false)⟩,⟨some 67,.pick (.tmp 63) (.const (.bool true)) (.tmp 66),none⟩,⟨some 68,.move (.tmp 67),none⟩,⟨some 69,.fieldAddr 33 (.tmp 14) 0,some (some 68,false)⟩,⟨some 70,.load 3 (.tmp 69),some (some 68,false)⟩,⟨some 71,.binOp .neq 3 (.tmp 70) (.const (.int .i64 0)) 3,some (some 68,false)⟩,⟨some 72,.pick (.tmp 68) (.const (.bool true)) (.tmp 71),none⟩,⟨some 73,.move (.tmp 72),none⟩,⟨some 74,.move (.tmp 9),some (some 73,false)⟩,⟨some 75,.move (.tmp 11),some (some 73,false)⟩,⟨some 76,.binOp .neq 4 (.tmp 74) (.tmp 75) 4,some (some 73,false)⟩,⟨some 77,.pick (.tmp 73) (.const (.bool true)) (.tmp 76),none⟩,⟨some 78,.move (.tmp 77),none⟩,⟨some 79,.move (.tmp 13),some (some 78,false)⟩,⟨some 80,.unOp .not 4 (.tmp 79),some (some 78,false)⟩,⟨some 81,.pick (.tmp 78) (.const (.bool true)) (.tmp 80),none⟩]) (.cond (.tmp 81) (.seq (.reg [⟨some 8,.assign (.const (.bool false)),none⟩]) .ret) .skip)) (.seq (.seq (.reg [⟨some 82,.move (.tmp 3),none⟩,⟨some 83,.binOp .gtr 3 (.tmp 82) (.const (.int .i64 0)) 3,none⟩]) (.cond (.tmp 83) (.seq (.reg [⟨some 85,.load 25 (.tmp 4),none⟩,⟨some 86,.load 25 (.tmp 5),none⟩,⟨some 87,.move (.tmp 3),none⟩,⟨some 88,.binOp .sub 3 (.tmp 87) (.const (.int .i64 1)) 3,none⟩,⟨some 89,.call ⟨.value (.func 8),#[.tmp 85,.tmp 86,.tmp 88],#[25,25,3]⟩,none⟩,⟨some 84,.move (.tmp 89),none⟩,⟨some 90,.extract (.tmp 84) 0,none⟩,⟨some 91,.extract (.tmp 84) 1,none⟩,⟨some 16,.alloc 33,none⟩,⟨some 15,.assign (.tmp 90),none⟩,⟨none,.store 33 (.tmp 16) (.tmp 91),none⟩]) (.seq (.reg [⟨some 92,.fieldAddr 33 (.tmp 16) 0,none⟩,⟨some 93,.load 3 (.tmp 92),none⟩,⟨some 94,.binOp .neq 3 (.tmp 93) (.const (.int .i64 0)) 3,none⟩,⟨some 95,.move (.tmp 94),none⟩,⟨some 96,.move (.tmp 9),some (some 95,false)⟩,⟨some 97,.move (.tmp 96),some (some 95,false)⟩,⟨some 98,.move (.tmp 15),some (some 97,true)⟩,⟨some 99,.unOp .not 4 (.tmp 98),some (some 97,true)⟩,⟨some 100,.pick (.tmp 97) (.tmp 99) (.const (.bool false)),some (some 95,false)⟩,⟨some 101,.pick (.tmp 95) (.const (.bool true)) (.tmp 100),none⟩]) (.cond (.tmp 101) (.seq (.reg [⟨some 8,.assign (.const (.bool false)),none⟩]) .ret) .skip))) .skip)) (.seq (.reg [⟨some 103,.load 25 (.tmp 5),none⟩,⟨some 104,.load 25 (.tmp 6),none⟩,⟨some 105,.move (.tmp 3),none⟩,⟨some 106,.call ⟨.value (.func 8),#[.tmp 103,.tmp 104,.tmp 105],#[25,25,3]⟩,none⟩,⟨some 102,.move (.tmp 106),none⟩,⟨some 107,.extract (.tmp 102) 0,none⟩,⟨some 108,.extract (.tmp 102) 1,none⟩,⟨some 17,.assign (.tmp 107),none⟩,⟨none,.store 33 (.tmp 10) (.tmp 108),none⟩]) (.seq (.reg [⟨some 110,.load 25 (.tmp 4),none⟩,⟨some 111,.load 25 (.tmp 6),none⟩,⟨some 112,.move (.tmp 3),none⟩,⟨some 113,.call ⟨.value (.func 8),#[.tmp 110,.tmp 111,.tmp 112],#[25,25,3]⟩,none⟩,⟨some 109,.move (.tmp 113),none⟩,⟨some 114,.extract (.tmp 109) 0,none⟩,⟨some 115,.extract (.tmp 109) 1,none⟩,⟨some 18,.assign (.tmp 114),none⟩,⟨none,.store 33 (.tmp 12) (.tmp 115),none⟩]) (.seq (.reg [⟨some 116,.fieldAddr 33 (.tmp 10) 0,none⟩,⟨some 117,.load 3 (.tmp 116),none⟩,⟨some 118,.binOp .eql 3 (.tmp 117) (.const (.int .i64 0)) 3,none⟩,⟨some 119,.move (.tmp 118),none⟩,⟨some 120,.fieldAddr 33 (.tmp 12) 0,some (some 119,true)⟩,⟨some 121,.load 3 (.tmp 120),some (some 119,true)⟩,⟨some 122,.binOp .eql 3 (.tmp 121) (.const (.int .i64 0)) 3,some (some 119,true)⟩,⟨some 123,.pick (.tmp 119) (.tmp 122) (.const (.bool false)),none⟩,⟨some 124,.move (.tmp 123),none⟩,⟨some 125,.move (.tmp 9),some (some 124,true)⟩,⟨some 126,.unOp .not 4 (.tmp 125),some (some 124,true)⟩,⟨some 127,.move (.tmp 126),some (some 124,true)⟩,⟨some 128,.move (.tmp 17),some (some 127,false)⟩,⟨some 129,.unOp .not 4 (.tmp 128),some (some 127,false)⟩,⟨some 130,.pick (.tmp 127) (.const (.bool true)) (.tmp 129),some (some 124,true)⟩,⟨some 131,.move (.tmp 130),some (some 124,true)⟩,⟨some 132,.move (.tmp 18),some (some 131,false)⟩,⟨some 133,.pick (.tmp 131) (.const (.bool true)) (.tmp 132),some (some 124,true)⟩,⟨some 134,.pick (.tmp 124) (.tmp 133) (.const (.bool false)),none⟩,⟨some 8,.assign (.tmp 134),none⟩]) .ret))))))))))
@[simp] theorem x5_s {C e s K} : type_of% (@X_at C e s K _ _ x5.eq_1):=X_at x5.eq_1
def an5 : Ann:=⟨[],[],[]⟩
theorem fi5 : FI Try.prog 5 (cxA an5) x5 [.tmp 8] Try.f5:=fiA Try.func5 mixed
theorem gamesGrow_law (a b c : Stc) (n : Int) : CallOK Try.prog 5 [.agg (stc a),.agg (stc b),.agg (stc c),.int .i64 n] [] (.bool true) []:=by
 have hb:=gamesBegun_law
 have g1:=GameFault_ref a b n
 have g2:=GameFault_ref b c n
 by_cases h1 : (gameF a b n).1 = 0
 rotate_left
 ·generalize gameF a b n = q at *
  generalize gameF b c n = q2 at *
  unfold stc at *
  refine fi5.op ?_
  (refine Sg.h ?_;try repeat' ((first|(with_reducible first|refine brA ?_|refine brE fun _=>?_|refine spl ⟨?_,?_⟩<;>intro _)|refine clo hb ?_|refine clo g1 ?_)<;>((try simp -implicitDefEqProofs [h1]);(try simp -implicitDefEqProofs(disch:=first|assumption|(try simp only[lens]);omega -splitDisjunctions) [h1]))))
 by_cases h2 : (gameF b c n).1 = 0
 rotate_left
 ·generalize gameF a b n = q at *
  generalize gameF b c n = q2 at *
  unfold stc at *
  refine fi5.op ?_
  (refine Sg.h ?_;try repeat' ((first|(with_reducible first|refine brA ?_|refine brE fun _=>?_|refine spl ⟨?_,?_⟩<;>intro _)|refine clo hb ?_|refine clo g1 ?_|refine clo g2 ?_)<;>((try simp -implicitDefEqProofs [h1,h2]);(try simp -implicitDefEqProofs(disch:=first|assumption|(try simp only[lens]);omega -splitDisjunctions) [h1,h2]))))
 obtain ⟨e1,e2,e3,e4,e5,e6,s1,s2,s3,s4⟩:=grow_plain h1 h2
 have w1:=Wins_games a b n
 have w2:=Wins_games b a n
 have w3:=Wins_games a a n
 have w4:=Wins_games a b (n - 1)
 have w5:=Wins_games b c n
 have w6:=Wins_games a c n
 rw [e1] at g1 w1
 rw [e2] at g2 w5
 rw [e3,s1] at w2
 rw [e4,s2] at w3
 rw [e5] at w6
 clear h1 h2 e1 e2 e3 e4 e5 s1 s2
 generalize winB a b n = b1 at *
 generalize winB b c n = b2 at *
 generalize winB a c n = b3 at *
 generalize winB a b (n - 1) = b4 at *
 unfold stc at *
 refine fi5.op ?_
 by_cases hn3 : 3 < n
 ·(refine Sg.h ?_;try repeat' ((first|(with_reducible first|refine brA ?_|refine brE fun _=>?_|refine spl ⟨?_,?_⟩<;>intro _)|refine clo hb ?_|refine clo g1 ?_|refine clo g2 ?_)<;>((try simp -implicitDefEqProofs [hn3]);(try simp -implicitDefEqProofs(disch:=first|assumption|(try simp only[lens]);omega -splitDisjunctions) [hn3]))))
 by_cases hn : 0 < n
 ·rw [e6 hn] at w4
  have s3:=s3 hn
  cases b1
  ·(refine Sg.h ?_;try repeat' ((first|(with_reducible first|refine brA ?_|refine brE fun _=>?_|refine spl ⟨?_,?_⟩<;>intro _)|refine clo hb ?_|refine clo g1 ?_|refine clo g2 ?_|refine clo w1 ?_|refine clo w2 ?_|refine clo w3 ?_|refine clo w4 ?_|refine clo w5 ?_|refine clo w6 ?_)<;>((try simp -implicitDefEqProofs [hn3,hn]);(try simp -implicitDefEqProofs(disch:=first|assumption|(try simp only[lens]);omega -splitDisjunctions) [hn3,hn]))))
  ·obtain rfl : b4 = true := s3 rfl
   cases b2
   ·(refine Sg.h ?_;try repeat' ((first|(with_reducible first|refine brA ?_|refine brE fun _=>?_|refine spl ⟨?_,?_⟩<;>intro _)|refine clo hb ?_|refine clo g1 ?_|refine clo g2 ?_|refine clo w1 ?_|refine clo w2 ?_|refine clo w3 ?_|refine clo w4 ?_|refine clo w5 ?_|refine clo w6 ?_)<;>((try simp -implicitDefEqProofs [hn3,hn]);(try simp -implicitDefEqProofs(disch:=first|assumption|(try simp only[lens]);omega -splitDisjunctions) [hn3,hn]))))
   ·obtain rfl : b3 = true := s4 rfl rfl
    (refine Sg.h ?_;try repeat' ((first|(with_reducible first|refine brA ?_|refine brE fun _=>?_|refine spl ⟨?_,?_⟩<;>intro _)|refine clo hb ?_|refine clo g1 ?_|refine clo g2 ?_|refine clo w1 ?_|refine clo w2 ?_|refine clo w3 ?_|refine clo w4 ?_|refine clo w5 ?_|refine clo w6 ?_)<;>((try simp -implicitDefEqProofs [hn3,hn]);(try simp -implicitDefEqProofs(disch:=first|assumption|(try simp only[lens]);omega -splitDisjunctions) [hn3,hn]))))
 ·clear w4 e6 s3
  cases b1
  ·(refine Sg.h ?_;try repeat' ((first|(with_reducible first|refine brA ?_|refine brE fun _=>?_|refine spl ⟨?_,?_⟩<;>intro _)|refine clo hb ?_|refine clo g1 ?_|refine clo g2 ?_|refine clo w1 ?_|refine clo w2 ?_|refine clo w3 ?_|refine clo w5 ?_|refine clo w6 ?_)<;>((try simp -implicitDefEqProofs [hn3,hn]);(try simp -implicitDefEqProofs(disch:=first|assumption|(try simp only[lens]);omega -splitDisjunctions) [hn3,hn]))))
  ·cases b2
   ·(refine Sg.h ?_;try repeat' ((first|(with_reducible first|refine brA ?_|refine brE fun _=>?_|refine spl ⟨?_,?_⟩<;>intro _)|refine clo hb ?_|refine clo g1 ?_|refine clo g2 ?_|refine clo w1 ?_|refine clo w2 ?_|refine clo w3 ?_|refine clo w5 ?_|refine clo w6 ?_)<;>((try simp -implicitDefEqProofs [hn3,hn]);(try simp -implicitDefEqProofs(disch:=first|assumption|(try simp only[lens]);omega -splitDisjunctions) [hn3,hn]))))
   ·obtain rfl : b3 = true := s4 rfl rfl
    (refine Sg.h ?_;try repeat' ((first|(with_reducible first|refine brA ?_|refine brE fun _=>?_|refine spl ⟨?_,?_⟩<;>intro _)|refine clo hb ?_|refine clo g1 ?_|refine clo g2 ?_|refine clo w1 ?_|refine clo w2 ?_|refine clo w3 ?_|refine clo w5 ?_|refine clo w6 ?_)<;>((try simp -implicitDefEqProofs [hn3,hn]);(try simp -implicitDefEqProofs(disch:=first|assumption|(try simp only[lens]);omega -splitDisjunctions) [hn3,hn]))))
end Go.Proofs.Ytfhakdonenhnbaa
namespace Go.Pv
open Go
inductive HasTy (P : Program) : TypeId → List PV → Prop where
 | bool {t b} (h : P.underlying t = some .bool) : HasTy P t [.bool b]
 | int {t k n} (h : P.underlying t = some (.int k)) (wf : (Lit.int k n).wf = true) : HasTy P t [.int k n]
 | str {t s} (h : P.underlying t = some .string) (hs : s.size ≤ maxLen) (hb : s.size ≤ reachBytes) : HasTy P t [.str s]
 | slice {t e rows} (h : P.underlying t = some (.slice e)) (hr : ∀ row ∈ rows,HasTy P e row) (hb : rows.length * P.bytesOf e ≤ reachBytes) : HasTy P t [.list rows]
 | struct {t} {fs : Array Field} {parts : List (List PV)} (h : P.underlying t = some (.struct fs)) (hl : parts.length = fs.size)
   (hp : ∀ (i : Nat) (f : Field) (row : List PV),fs[i]? = some f → parts[i]? = some row → HasTy P f.type row) : HasTy P t parts.flatten
 | array {t n e} {parts : List (List PV)} (h : P.underlying t = some (.array n e)) (hl : parts.length = n) (hp : ∀ row ∈ parts,HasTy P e row) : HasTy P t parts.flatten
def RowRel (pub : PHeap) (row : List PV) (cs : List Value) : Prop:=row.length = cs.length ∧ ∀ (j : Nat) (v : PV) (c : Value),row[j]? = some v → cs[j]? = some c → Rel pub noSig v c
theorem RowRel.nil {pub : PHeap} : RowRel pub [] []:=⟨rfl,fun j v c h=>by simp at h⟩
theorem RowRel.one {pub : PHeap} {v : PV} {c : Value} (h : Rel pub noSig v c) : RowRel pub [v] [c]:=⟨rfl,fun j x y hx hy=>by
 cases j with
 | zero=>simp at hx hy;subst hx hy;exact h
 | succ j=>simp at hx⟩
theorem RowRel.append {pub : PHeap} {r r' : List PV} {cs cs' : List Value} (h : RowRel pub r cs) (g : RowRel pub r' cs') : RowRel pub (r ++ r') (cs ++ cs'):=by
 refine ⟨by simp [h.1,g.1],fun j v c hv hc=>?_⟩
 rw [List.getElem?_append] at hv hc
 split at hv
 ·rename_i hlt;rw [if_pos (by rw [← h.1];exact hlt)] at hc;exact h.2 j v c hv hc
 ·rename_i hge;rw [if_neg (by rw [← h.1];exact hge),← h.1] at hc;exact g.2 _ v c hv hc
def contig (P : Program) (total : Nat) : List Field → Nat → Bool
 | [],o=>o == total
 | f :: r,o=>f.offset == o && contig P total r (o + P.cellsOf f.type)
def tyOK (P : Program) (S : List TypeId) (t : TypeId) : Bool:=match P.underlying t with
 | some .bool | some (.int _) | some .string=>true
 | some (.slice e)=>S.contains e && decide (0 < P.cellsOf e)
 | some (.struct fs)=>contig P (P.cellsOf t) fs.toList 0 && fs.toList.all fun f=>S.contains f.type
 | some (.array n e)=>S.contains e && n * P.cellsOf e == P.cellsOf t
 | _=>false
theorem rows_of {α : Type} (p : Nat → α → Prop) : ∀ n,(∀ i,i < n → ∃ x,p i x) → ∃ l : List α,l.length = n ∧ ∀ i x,l[i]? = some x → p i x:=by
 intro n
 induction n with
 | zero=>intro _;exact ⟨[],rfl,fun i x h=>by simp at h⟩
 | succ n ih=>
  intro h
  obtain ⟨l,hl,hp⟩:=ih fun i hi=>h i (by omega)
  obtain ⟨x,hx⟩:=h n (by omega)
  refine ⟨l ++ [x],by simp [hl],fun i y hy=>?_⟩
  rw [List.getElem?_append] at hy
  split at hy
  ·exact hp i y hy
  ·rename_i hge
   have hi:=lt_of_getElem? hy
   simp only [List.length_cons,List.length_nil] at hi
   have hin : i = n:=by omega
   subst hin
   rw [show i - l.length = 0 by omega] at hy
   simp at hy;subst hy;exact hx
section
variable {H : Type} {enc : TypeId × Value → H} {P : Program} {S : List TypeId} {w : World} {spare : Nat → Bool} {held : Bool}
theorem fields_rel {fuel total : Nat} {cs : List Value} {pub : PHeap} (hcs : cs.length = total)
  (ih : ∀ (t : TypeId) (cs : List Value) (x : DataW H × List MemPlace),S.contains t = true → DataW.trod enc P w 0 spare held fuel t cs = some x → (∀ n ∈ DataW.weights P t x.1,n ≤ reachBytes) → ∃ row,HasTy P t row ∧ RowRel pub row cs) :
  ∀ (fs : List Field) (o : Nat) (xs : List (DataW H × List MemPlace)),contig P total fs o = true → (fs.all fun f=>S.contains f.type) = true →
   (fs.mapM fun f=>DataW.trod enc P w 0 spare held fuel f.type ((cs.drop f.offset).take (P.cellsOf f.type))) = some xs → (∀ n ∈ DataW.weightsEach P (fs.map (·.type)) (xs.map (·.1)),n ≤ reachBytes) →
   o ≤ total ∧ ∃ parts : List (List PV),parts.length = fs.length ∧ (∀ (i : Nat) (f : Field) (row : List PV),fs[i]? = some f → parts[i]? = some row → HasTy P f.type row) ∧ RowRel pub parts.flatten (cs.drop o):=by
 intro fs
 induction fs with
 | nil=>
  intro o xs hc _ _ _
  simp only [contig,beq_iff_eq] at hc
  refine ⟨by omega,[],rfl,fun i f row h=>by simp at h,?_⟩
  rw [List.drop_eq_nil_of_le (by omega)];exact .nil
 | cons f r ih2=>
  intro o xs hc ha hm hw
  simp only [contig,Bool.and_eq_true,beq_iff_eq] at hc
  simp only [List.all_cons,Bool.and_eq_true] at ha
  obtain ⟨ho,hc⟩:=hc
  rw [List.mapM_cons] at hm
  cases hx : DataW.trod enc P w 0 spare held fuel f.type ((cs.drop f.offset).take (P.cellsOf f.type)) with
  | none=>rw [hx] at hm;simp at hm
  | some x=>
   cases hxs : (r.mapM fun f=>DataW.trod enc P w 0 spare held fuel f.type ((cs.drop f.offset).take (P.cellsOf f.type))) with
   | none=>rw [hx,hxs] at hm;simp at hm
   | some ys=>
    rw [hx,hxs] at hm
    obtain rfl : x :: ys = xs:=by simpa using hm
    simp only [List.map_cons,DataW.weightsEach,List.mem_append] at hw
    obtain ⟨h1,parts,h2,h3,h4⟩:=ih2 _ ys hc ha.2 hxs fun n hn=>hw n (.inr hn)
    obtain ⟨row,g1,g2⟩:=ih _ _ _ ha.1 hx fun n hn=>hw n (.inl hn)
    refine ⟨by omega,row :: parts,by simp [h2],fun i f' row' hf hr=>?_,?_⟩
    ·cases i with
     | zero=>simp at hf hr;subst hf hr;exact g1
     | succ i=>exact h3 i f' row' (by simpa using hf) (by simpa using hr)
    ·rw [List.flatten_cons]
     have hsplit : cs.drop o = (cs.drop o).take (P.cellsOf f.type) ++ cs.drop (o + P.cellsOf f.type):=by
      rw [← List.drop_drop,List.take_append_drop]
     rw [hsplit,← ho]
     rw [← ho] at h4
     exact g2.append h4
theorem elems_rel {fuel : Nat} {cs : List Value} {pub : PHeap} {e : TypeId} (hin : S.contains e = true)
  (ih : ∀ (t : TypeId) (cs : List Value) (x : DataW H × List MemPlace),S.contains t = true → DataW.trod enc P w 0 spare held fuel t cs = some x → (∀ n ∈ DataW.weights P t x.1,n ≤ reachBytes) → ∃ row,HasTy P t row ∧ RowRel pub row cs) :
  ∀ (k i : Nat) (xs : List (DataW H × List MemPlace)),cs.length = (i + k) * P.cellsOf e →
   ((List.range' i k).mapM fun i=>DataW.trod enc P w 0 spare held fuel e ((cs.drop (i * P.cellsOf e)).take (P.cellsOf e))) = some xs → (∀ n ∈ DataW.weightsAll P e (xs.map (·.1)),n ≤ reachBytes) →
   ∃ parts : List (List PV),parts.length = k ∧ (∀ row ∈ parts,HasTy P e row) ∧ RowRel pub parts.flatten (cs.drop (i * P.cellsOf e)):=by
 intro k
 induction k with
 | zero=>
  intro i xs hc _ _
  refine ⟨[],rfl,by simp,?_⟩
  rw [List.drop_eq_nil_of_le (by rw [hc];exact Nat.le_refl _)];exact .nil
 | succ k ih2=>
  intro i xs hc hm hw
  rw [List.range'_succ,List.mapM_cons] at hm
  cases hx : DataW.trod enc P w 0 spare held fuel e ((cs.drop (i * P.cellsOf e)).take (P.cellsOf e)) with
  | none=>rw [hx] at hm;simp at hm
  | some x=>
   cases hxs : ((List.range' (i + 1) k).mapM fun i=>DataW.trod enc P w 0 spare held fuel e ((cs.drop (i * P.cellsOf e)).take (P.cellsOf e))) with
   | none=>rw [hx,hxs] at hm;simp at hm
   | some ys=>
    rw [hx,hxs] at hm
    obtain rfl : x :: ys = xs:=by simpa using hm
    simp only [List.map_cons,DataW.weightsAll,List.mem_append] at hw
    obtain ⟨parts,h2,h3,h4⟩:=ih2 (i + 1) ys (by rw [hc];congr 1;omega) hxs fun n hn=>hw n (.inr hn)
    obtain ⟨row,g1,g2⟩:=ih _ _ _ hin hx fun n hn=>hw n (.inl hn)
    refine ⟨row :: parts,by simp [h2],fun row' hr=>?_,?_⟩
    ·rcases List.mem_cons.1 hr with rfl | hr
     ·exact g1
     ·exact h3 _ hr
    ·rw [List.flatten_cons]
     have hsplit : cs.drop (i * P.cellsOf e) = (cs.drop (i * P.cellsOf e)).take (P.cellsOf e) ++ cs.drop ((i + 1) * P.cellsOf e):=by
      rw [Nat.add_mul,Nat.one_mul,← List.drop_drop,List.take_append_drop]
     rw [hsplit]
     exact g2.append h4
def heapOf (w : World) : PHeap:=fun b=>w.heap[b]?
theorem cell_block {w : World} {a : Addr} {c : Value} (h : w.cell? a = some c) : a.spot = none ∧ ∃ cs ty fr,w.heap[a.block]? = some (.cells cs ty fr) ∧ cs[a.off]? = some c:=by
 unfold World.cell? at h
 split at h
 ·rename_i cs ty fr hh
  split at h
  ·cases h
  ·rename_i hs;exact ⟨by simpa using hs,cs,ty,fr,hh,h⟩
 ·cases h
theorem weightsAll_mem {H : Type} {P : Program} {e : TypeId} : ∀ {l : List (DataW H)} {d : DataW H} {n : Nat},d ∈ l → n ∈ DataW.weights P e d → n ∈ DataW.weightsAll P e l
 | a :: r,d,n,h,hn=>by
  simp only [DataW.weightsAll,List.mem_append]
  rcases List.mem_cons.1 h with rfl | h
  ·exact .inl hn
  ·exact .inr (weightsAll_mem h hn)
theorem trod_rel (hS : ∀ t,S.contains t = true → tyOK P S t = true) : ∀ (fuel : Nat) (t : TypeId) (cs : List Value) (x : DataW H × List MemPlace),S.contains t = true →
  DataW.trod enc P w 0 spare held fuel t cs = some x → (∀ n ∈ DataW.weights P t x.1,n ≤ reachBytes) → ∃ row,HasTy P t row ∧ RowRel (heapOf w) row cs:=by
 intro fuel
 induction fuel with
 | zero=>intro t cs x _ h;simp [DataW.trod] at h
 | succ fuel ih=>
  intro t cs x hin h hw
  have hok:=hS t hin
  unfold tyOK at hok
  unfold DataW.trod at h
  split at hok
  ·rename_i hu
   rw [hu] at h
   split at h <;> first | (cases h;done) | skip
   all_goals first | (rename_i heq;cases heq;done) | skip
   exact ⟨_,.bool hu,.one .bool⟩
  ·rename_i k hu
   rw [hu] at h
   split at h <;> first | (cases h;done) | skip
   all_goals first | (rename_i heq;cases heq;done) | skip
   rename_i heq;cases heq
   split at h
   ·rename_i hk;obtain ⟨rfl,hwf⟩:=hk;exact ⟨_,.int hu hwf,.one .int⟩
   ·cases h
  ·rename_i hu
   rw [hu] at h
   split at h <;> first | (cases h;done) | skip
   all_goals first | (rename_i heq;cases heq;done) | skip
   split at h
   ·rename_i s hs
    cases h
    exact ⟨_,.str hu hs (by simpa [DataW.weights] using hw),.one (.str hs)⟩
   ·cases h
  ·rename_i e hu
   rw [hu] at h
   simp only [Bool.and_eq_true,decide_eq_true_eq] at hok
   split at h <;> first | (cases h;done) | skip
   all_goals first | (rename_i heq;cases heq;done) | skip
   ·exact ⟨[.list []],.slice hu (fun row hr=>by cases hr) (by simp),.one (.list0 (Nat.zero_le _))⟩
   ·rename_i e' a len cap heq
    cases heq
    simp only at h
    split at h
    ·rename_i hc
     obtain ⟨_,hlc,hcm⟩:=hc
     obtain ⟨elems,hm,h⟩:=Option.bind_eq_some_iff.1 h
     obtain ⟨rest,hrest,rfl⟩:=Option.map_eq_some_iff.1 h
     simp only [DataW.weights,hu,List.mem_cons,List.mem_append] at hw
     by_cases h0 : len = 0
     ·subst h0
      exact ⟨[.list []],.slice hu (fun row hr=>by cases hr) (by simp),.one (.list0 hcm)⟩
     ·have hel : ∀ i,i < len → ∃ row : List PV,HasTy P e row ∧ ∃ ec : List Value,ec.length = P.cellsOf e ∧ (∀ j,j < P.cellsOf e → w.cell? ((a.add (i * P.cellsOf e)).add j) = ec[j]?) ∧ RowRel (heapOf w) row ec := by
       intro i hi
       have hx:=mapM_some_get hm i i (by simp [hi])
       have hl:=mapM_some_length hm
       simp only [List.length_range] at hl
       rw [List.getElem?_eq_getElem (by omega)] at hx
       obtain ⟨ec,h1,h2⟩:=Option.bind_eq_some_iff.1 hx
       obtain ⟨_,h3,h4⟩:=World.cells?_some h1
       obtain ⟨row,g1,g2⟩:=ih e ec _ hok.1 h2 fun n hn=>hw n (.inr (.inl (weightsAll_mem (List.mem_map.2 ⟨_,List.getElem_mem _,rfl⟩) hn)))
       exact ⟨row,g1,ec,h3,h4,g2⟩
      obtain ⟨rows,hrl,hrp⟩:=rows_of _ len hel
      -- the block
      have h00 : w.cell? ((a.add (0 * P.cellsOf e)).add 0) = w.cell? a:=by simp [Addr.add]
      obtain ⟨_,_,ec0,hec0,hcell0,_⟩:=hel 0 (by omega)
      have hc0 : w.cell? a = some (ec0[0]'(by omega)):=by
       rw [← h00,hcell0 0 hok.2];exact List.getElem?_eq_getElem _
      obtain ⟨hsp,arr,ty,fr,hblk,_⟩:=cell_block hc0
      obtain ⟨b,o,sp⟩:=a
      simp only at hsp hblk
      subst hsp
      have hcellat : ∀ i,i < len → ∀ j,j < P.cellsOf e → w.cell? (((⟨b,o,none⟩ : Addr).add (i * P.cellsOf e)).add j) = arr[o + i * P.cellsOf e + j]?:=by
       intro i _ j _
       rw [Addr.add_at,Addr.add_at,cell_at hblk]
      have hsz : o + rows.length * P.cellsOf e ≤ arr.size:=by
       obtain ⟨_,_,ec,hec,hcell,_⟩:=hel (len - 1) (by omega)
       have h1:=hcell (P.cellsOf e - 1) (by omega)
       rw [hcellat (len - 1) (by omega) _ (by omega),List.getElem?_eq_getElem (by omega)] at h1
       have h2 : o + (len - 1) * P.cellsOf e + (P.cellsOf e - 1) < arr.size:=by
        rcases Nat.lt_or_ge (o + (len - 1) * P.cellsOf e + (P.cellsOf e - 1)) arr.size with h | h
        ·exact h
        ·rw [Array.getElem?_eq_none h] at h1;cases h1
       rw [hrl]
       have h3 : len * P.cellsOf e = (len - 1) * P.cellsOf e + P.cellsOf e:=by
        rw [← Nat.succ_mul];congr 1;omega
       omega
      refine ⟨[.list rows],.slice hu (fun row hr=>?_) ?_,.one ?_⟩
      rotate_left
      ·have h1 := hw _ (.inl rfl)
       have hl:=mapM_some_length hm
       simp only [List.length_map,List.length_range] at h1 hl
       rw [hrl,← hl]
       exact Nat.le_trans (Nat.mul_le_mul_right _ (Nat.le_add_right _ _)) h1
      rotate_left
      ·obtain ⟨i,hi⟩ := List.mem_iff_getElem?.1 hr
       exact (hrp i row hi).1
      ·have key : Rel (heapOf w) noSig (.list rows) (.slice (some ⟨b,o,none⟩) rows.length cap) := by
        refine .list (esz:=P.cellsOf e) hblk (by omega) hcm ?_ hsz ?_
        ·intro r row hr
         obtain ⟨_,ec,h1,_,h3⟩:=hrp r row hr
         rw [h3.1,h1]
        ·intro r row j v c hr hj hcc
         have hrlt:=lt_of_getElem? hr
         obtain ⟨_,ec,h1,h2,h3⟩:=hrp r row hr
         have hjl:=lt_of_getElem? hj
         have h4:=h3.1
         have h5:=h2 j (by omega)
         rw [hcellat r (by omega) j (by omega),hcc] at h5
         exact h3.2 j v c hj h5.symm
       rw [hrl] at key
       exact key
    ·cases h
  ·rename_i fs hu
   rw [hu] at h
   simp only [Bool.and_eq_true] at hok
   have h' : (if cs.length = P.cellsOf t then (fs.toList.mapM fun f=>DataW.trod enc P w 0 spare held fuel f.type ((cs.drop f.offset).take (P.cellsOf f.type))).map fun xs=>((DataW.agg (xs.map (·.1)) : DataW H),xs.flatMap (·.2)) else none) = some x:=by
    split at h
    all_goals first | (rename_i heq;cases heq;exact h) | (rename_i heq;cases heq;done) | (exfalso;simp only [Option.some.injEq,reduceCtorEq] at *;done) | (simp_all;done)
   split at h'
   ·rename_i hlen
    obtain ⟨xs,hm,rfl⟩:=Option.map_eq_some_iff.1 h'
    simp only [DataW.weights,hu] at hw
    obtain ⟨_,parts,h1,h2,h3⟩:=fields_rel hlen ih fs.toList 0 xs hok.1 hok.2 hm hw
    refine ⟨parts.flatten,.struct hu (by simpa using h1) (fun i f row hf hr=>h2 i f row (by simpa using hf) hr),by simpa using h3⟩
   ·cases h'
  ·rename_i n e hu
   rw [hu] at h
   simp only [Bool.and_eq_true,beq_iff_eq] at hok
   have h' : (if cs.length = P.cellsOf t then ((List.range n).mapM fun i=>DataW.trod enc P w 0 spare held fuel e ((cs.drop (i * P.cellsOf e)).take (P.cellsOf e))).map fun xs=>((DataW.agg (xs.map (·.1)) : DataW H),xs.flatMap (·.2)) else none) = some x:=by
    split at h
    all_goals first | (rename_i heq;cases heq;exact h) | (rename_i heq;cases heq;done) | (exfalso;simp only [Option.some.injEq,reduceCtorEq] at *;done) | (simp_all;done)
   split at h'
   ·rename_i hlen
    obtain ⟨xs,hm,rfl⟩:=Option.map_eq_some_iff.1 h'
    rw [List.range_eq_range'] at hm
    simp only [DataW.weights,hu] at hw
    obtain ⟨parts,h1,h2,h3⟩:=elems_rel hok.1 ih n 0 xs (by rw [hlen,← hok.2];congr 1;omega) hm hw
    refine ⟨parts.flatten,.array hu h1 h2,by simpa using h3⟩
   ·cases h'
  ·cases hok
end
section
variable {P : Program} {t : TypeId} {row : List PV}
theorem HasTy.int' {k : IntKind} (hu : P.underlying t = some (.int k)) (h : HasTy P t row) : ∃ n,row = [.int k n] ∧ (Lit.int k n).wf = true:=by
 cases h with
 | bool h1=>rw [h1] at hu;cases hu
 | int h1 wf=>rw [h1] at hu;cases hu;exact ⟨_,rfl,wf⟩
 | str h1 hs hb=>rw [h1] at hu;cases hu
 | slice h1 hr hb=>rw [h1] at hu;cases hu
 | struct h1 hl hp=>rw [h1] at hu;cases hu
 | array h1 hl hp=>rw [h1] at hu;cases hu
theorem HasTy.str' (hu : P.underlying t = some .string) (h : HasTy P t row) : ∃ s,row = [.str s] ∧ s.size ≤ maxLen:=by
 cases h with
 | bool h1=>rw [h1] at hu;cases hu
 | int h1 wf=>rw [h1] at hu;cases hu
 | str h1 hs hb=>rw [h1] at hu;cases hu;exact ⟨_,rfl,hs⟩
 | slice h1 hr hb=>rw [h1] at hu;cases hu
 | struct h1 hl hp=>rw [h1] at hu;cases hu
 | array h1 hl hp=>rw [h1] at hu;cases hu
theorem HasTy.bool' (hu : P.underlying t = some .bool) (h : HasTy P t row) : ∃ b,row = [.bool b]:=by
 cases h with
 | bool h1=>rw [h1] at hu;cases hu;exact ⟨_,rfl⟩
 | int h1 wf=>rw [h1] at hu;cases hu
 | str h1 hs hb=>rw [h1] at hu;cases hu
 | slice h1 hr hb=>rw [h1] at hu;cases hu
 | struct h1 hl hp=>rw [h1] at hu;cases hu
 | array h1 hl hp=>rw [h1] at hu;cases hu
theorem HasTy.slice' {e : TypeId} (hu : P.underlying t = some (.slice e)) (h : HasTy P t row) : ∃ rows,row = [.list rows] ∧ ∀ r ∈ rows,HasTy P e r:=by
 cases h with
 | bool h1=>rw [h1] at hu;cases hu
 | int h1 wf=>rw [h1] at hu;cases hu
 | str h1 hs hb=>rw [h1] at hu;cases hu
 | slice h1 hr hb=>rw [h1] at hu;cases hu;exact ⟨_,rfl,hr⟩
 | struct h1 hl hp=>rw [h1] at hu;cases hu
 | array h1 hl hp=>rw [h1] at hu;cases hu
theorem HasTy.sliceB {e : TypeId} (hu : P.underlying t = some (.slice e)) (h : HasTy P t row) : ∃ rows,row = [.list rows] ∧ (∀ r ∈ rows,HasTy P e r) ∧ rows.length * P.bytesOf e ≤ reachBytes:=by
 cases h with
 | slice h1 hr hb=>rw [h1] at hu;cases hu;exact ⟨_,rfl,hr,hb⟩
 | bool h1=>rw [h1] at hu;cases hu
 | int h1 wf=>rw [h1] at hu;cases hu
 | str h1 hs hb=>rw [h1] at hu;cases hu
 | struct h1 hl hp=>rw [h1] at hu;cases hu
 | array h1 hl hp=>rw [h1] at hu;cases hu
theorem HasTy.struct' {ti : TI} {l : List (Nat × Nat × Nat × Bool)} (ht : tinfo P t = some ti) (hk : ti.kind = .struct l) (h : HasTy P t row) : ∃ parts : List (List PV),row = parts.flatten ∧ parts.length = l.length ∧
  ∀ (i : Nat) (x : Nat × Nat × Nat × Bool) (r : List PV),l[i]? = some x → parts[i]? = some r → HasTy P x.2.1 r:=by
 obtain ⟨i,d,h1,h2,rfl⟩:=tinfo_some ht
 obtain ⟨fields,rfl,rfl,_⟩:=tkOf_struct hk
 cases h with
 | bool g=>rw [g] at h2;cases h2
 | int g wf=>rw [g] at h2;cases h2
 | str g hs hb=>rw [g] at h2;cases h2
 | slice g hr hb=>rw [g] at h2;cases h2
 | array g hl hp=>rw [g] at h2;cases h2
 | struct g hl hp=>
  rw [g] at h2;cases h2
  refine ⟨_,rfl,by simpa using hl,fun i x r hx hr=>?_⟩
  rw [List.getElem?_map,Option.map_eq_some_iff] at hx
  obtain ⟨f,hf,rfl⟩:=hx
  exact hp i f r (by simpa using hf) hr
end
end Go.Pv
