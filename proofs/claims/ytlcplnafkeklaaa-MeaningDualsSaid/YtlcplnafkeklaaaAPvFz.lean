import Derived.Test.YtlcplnafkeklaaaAPvGive
set_option linter.unusedVariables false
set_option linter.unusedSimpArgs false
namespace Go.Pv
open Go
class MixT (P : Program) : Prop where
 h : P.follows .mixedOrders = true
section
variable {P : Program} {N : Nat} {m : Nat} {e : Env} {s : Store} {K : Post} {k : Env → Store → Prop} {p : Prop}
theorem stp {g r : Prop} (x : r) (h : r → g := by
  intro x; first | exact thenL_normal x | exact blockK_normal x | exact thenL_exit x | exact blockK_exit x | exact blockK_past rfl x | exact loopK_exit x | exact thenL_ret x | exact blockK_ret x | exact loopK_ret x | exact loopK_normal x | exact EvL.seq x | exact EvL.block x | exact EvL.skip x | exact EvL.exit x | exact EvL.ret x | exact WOps.stop x | exact WMix.tail x) : g := h x
theorem EvL.regA {ops : List LOp} (h : ∀ k : Env → Store → Prop,(∀ e' s',K .normal e' s' → k e' s') → WOps P (frn N) ops e s k) : EvL P (frn N) m (.reg ops false) e s K := EvL.regk h
theorem WOps.auto (F : p) {d : Option Tmp} {op : Op} {rest : List LOp} {r : (PV → Store → Prop) → Prop} (x : ∀ q : PV → Store → Prop,(∀ v s',WOps P (frn N) rest (e.upd d v) s' k → q v s') → r q)
  (hd : ∀ t,d = some t → t < N := by simp only [lga,lgb,lgc,lgd,lge,lgf,lgg,lgh,lgi,lgj,lgk,nn,reduceCtorEq,reduceIte,Nat.reduceEqDiff,Nat.reduceLT,Nat.reduceAdd,Nat.reduceMul,Nat.reduceLeDiff,Int.toNat_natCast,Int.toNat_zero,Int.toNat_one,Int.reduceToNat,Int.reduceLE,Int.reduceLT,ne_eq,eq_self,Int.natCast_zero,Int.cast_ofNat_Int,Int.natCast_add,Int.natCast_one,Int.reduceNeg,Int.reduceSub,beq_self_eq_true,bne_self_eq_false])
  (h : p → ∀ q,r q → WOp P op e s q := by intro hF q x; simp only [WOp,WCall,plainEqAt,plainEq,Option.bind_some,WLoad,WStore,rowA,readP,evO,ofConst,Env.upd,envOf,argEnv,binP,intP,strP,shiftP,lenP,lenKind,cellsP,isCell,WFieldAddr,WField,WIndexAddr,WIndex,WMake,WSlice,boundP,WBuild,fillP,WBuildSlice,fillRows,WApp,WAppend,WSrc,isDst,killP,spliceP,WNext,WRes,WClear,putRows,tyI,zoI,lga,lgb,lgc,lgd,lge,lgf,lgg,lgh,lgi,lgj,lgk,nn,reduceCtorEq,reduceIte,Nat.reduceEqDiff,Nat.reduceLT,Nat.reduceAdd,Nat.reduceMul,Nat.reduceLeDiff,Int.toNat_natCast,Int.toNat_zero,Int.toNat_one,Int.reduceToNat,Int.reduceLE,Int.reduceLT,ne_eq,eq_self,Int.natCast_zero,Int.cast_ofNat_Int,Int.natCast_add,Int.natCast_one,Int.reduceNeg,Int.reduceSub,beq_self_eq_true,bne_self_eq_false,hF]; exact x) : WOps P (frn N) (⟨d,op,none⟩ :: rest) e s k :=
 WOps.step (frl hd) fun q hq => h F q (x q hq)
theorem WOps.takeA {d : Option Tmp} {op : Op} {g : Nat} {b : Bool} {r : List LOp} (w : WOps P (frn N) (⟨d,op,none⟩ :: r) e s k) (h : e g = .bool b := by (simp only [vsa,vsb,vsc,Nat.reduceAdd,Nat.reduceLT,evO,ofConst,Env.upd,envOf,argEnv,reduceIte,Nat.reduceEqDiff,reduceCtorEq]) <;> rfl) : WOps P (frn N) (⟨d,op,some (some g,b)⟩ :: r) e s k := WOps.take h w
theorem WOps.passA {d : Option Tmp} {op : Op} {g : Nat} {b : Bool} {r : List LOp} (w : WOps P (frn N) r (e.upd d (.tuple [])) s k) (h : e g = .bool (!b) := by (simp only [vsa,vsb,vsc,Nat.reduceAdd,Nat.reduceLT,evO,ofConst,Env.upd,envOf,argEnv,reduceIte,Nat.reduceEqDiff,reduceCtorEq]) <;> rfl) (hd : ∀ t,d = some t → t < N := by simp only [lga,lgb,lgc,lgd,lge,lgf,lgg,lgh,lgi,lgj,lgk,nn,reduceCtorEq,reduceIte,Nat.reduceEqDiff,Nat.reduceLT,Nat.reduceAdd,Nat.reduceMul,Nat.reduceLeDiff,Int.toNat_natCast,Int.toNat_zero,Int.toNat_one,Int.reduceToNat,Int.reduceLE,Int.reduceLT,ne_eq,eq_self,Int.natCast_zero,Int.cast_ofNat_Int,Int.natCast_add,Int.natCast_one,Int.reduceNeg,Int.reduceSub,beq_self_eq_true,bne_self_eq_false]) : WOps P (frn N) (⟨d,op,some (some g,b)⟩ :: r) e s k := WOps.pass h (frl hd) w
theorem WOps.splitA {d : Option Tmp} {op : Op} {g : Nat} {b : Bool} {r : List LOp} {t : Bool} (h1 : t = true → WOps P (frn N) (⟨d,op,some (some g,b)⟩ :: r) e s k) (h2 : t = false → WOps P (frn N) (⟨d,op,some (some g,b)⟩ :: r) e s k)
  (h : e g = .bool t := by (simp only [vsa,vsb,vsc,Nat.reduceAdd,Nat.reduceLT,evO,ofConst,Env.upd,envOf,argEnv,reduceIte,Nat.reduceEqDiff,reduceCtorEq]) <;> rfl) : WOps P (frn N) (⟨d,op,some (some g,b)⟩ :: r) e s k := WOps.split h h1 h2
theorem EvL.condA {c : Operand} {x y : LC} {t : Bool} (h1 : t = true → EvL P (frn N) m x e s K) (h2 : t = false → EvL P (frn N) m y e s K) (hc : evO e c = .bool t := by (simp only [vsa,vsb,vsc,Nat.reduceAdd,Nat.reduceLT,evO,ofConst,Env.upd,envOf,argEnv,reduceIte,Nat.reduceEqDiff,reduceCtorEq]) <;> rfl) : EvL P (frn N) m (.cond c x y) e s K := EvL.cond hc h1 h2
theorem EvL.drawnA {ops : Array Oper} {lo : List LOp} (h : ∀ k : Env → Store → Prop,(∀ e' s',K .normal e' s' → k e' s') → WOps P (frn N) lo e s k) (hchk : drawChk ops (drawM ops) = true := by decide +kernel)
  (hl : lopsL (dsts ops.toList) ops.toList = lo := by (dsimp only [lopsL,dsts,lop,nth]) <;> rfl) [hmix : MixT P] : EvL P (frn N) m (.drawn ops) e s K := EvL.drawnk hmix.h hchk fun k hk => hl ▸ h k hk
theorem EvL.mixA {ops : Array Oper} {n : Nat} {lo : List LOp} (h : ∀ k : Env → Store → Prop,(∀ e' s',K .normal e' s' → k e' s') → WMix P (frn N) false n lo e s [] k)
  (hchk : mixChk ops n = true := by first | (show mixChk _ 0 = true; decide +kernel) | (show mixChk _ 1 = true; decide +kernel) | (show mixChk _ 2 = true; decide +kernel) | (show mixChk _ 3 = true; decide +kernel) | (show mixChk _ 4 = true; decide +kernel) | (show mixChk _ 5 = true; decide +kernel) | (show mixChk _ 6 = true; decide +kernel) | (show mixChk _ 7 = true; decide +kernel) | (show mixChk _ 8 = true; decide +kernel) | (show mixChk _ 9 = true; decide +kernel) | (show mixChk _ 10 = true; decide +kernel) | (show mixChk _ 11 = true; decide +kernel) | (show mixChk _ 12 = true; decide +kernel) | (show mixChk _ 13 = true; decide +kernel) | (show mixChk _ 14 = true; decide +kernel) | (show mixChk _ 15 = true; decide +kernel) | (show mixChk _ 16 = true; decide +kernel) | (show mixChk _ 17 = true; decide +kernel) | (show mixChk _ 18 = true; decide +kernel) | (show mixChk _ 19 = true; decide +kernel) | (show mixChk _ 20 = true; decide +kernel) | (show mixChk _ 21 = true; decide +kernel) | (show mixChk _ 22 = true; decide +kernel) | (show mixChk _ 23 = true; decide +kernel) | (show mixChk _ 24 = true; decide +kernel) | (show mixChk _ 25 = true; decide +kernel) | (show mixChk _ 26 = true; decide +kernel) | (show mixChk _ 27 = true; decide +kernel) | (show mixChk _ 28 = true; decide +kernel) | (show mixChk _ 29 = true; decide +kernel) | (show mixChk _ 30 = true; decide +kernel) | (show mixChk _ 31 = true; decide +kernel) | (show mixChk _ 32 = true; decide +kernel) | (show mixChk _ 33 = true; decide +kernel) | (show mixChk _ 34 = true; decide +kernel) | (show mixChk _ 35 = true; decide +kernel) | (show mixChk _ 36 = true; decide +kernel) | (show mixChk _ 37 = true; decide +kernel) | (show mixChk _ 38 = true; decide +kernel) | (show mixChk _ 39 = true; decide +kernel) | (show mixChk _ 40 = true; decide +kernel) | (show mixChk _ 41 = true; decide +kernel) | (show mixChk _ 42 = true; decide +kernel) | (show mixChk _ 43 = true; decide +kernel) | (show mixChk _ 44 = true; decide +kernel) | (show mixChk _ 45 = true; decide +kernel) | (show mixChk _ 46 = true; decide +kernel) | (show mixChk _ 47 = true; decide +kernel) | (show mixChk _ 48 = true; decide +kernel) | (show mixChk _ 49 = true; decide +kernel) | (show mixChk _ 50 = true; decide +kernel) | (show mixChk _ 51 = true; decide +kernel) | (show mixChk _ 52 = true; decide +kernel) | (show mixChk _ 53 = true; decide +kernel) | (show mixChk _ 54 = true; decide +kernel) | (show mixChk _ 55 = true; decide +kernel) | (show mixChk _ 56 = true; decide +kernel) | (show mixChk _ 57 = true; decide +kernel) | (show mixChk _ 58 = true; decide +kernel) | (show mixChk _ 59 = true; decide +kernel) | (show mixChk _ 60 = true; decide +kernel))
  (hl : lopsL (dsts ops.toList) ops.toList = lo := by (dsimp only [lopsL,dsts,lop,nth]) <;> rfl) [hmix : MixT P] : EvL P (frn N) m (.drawn ops) e s K := EvL.mixk n hmix.h hchk fun k hk => hl ▸ h k hk
theorem EvL.mix2A {ops : Array Oper} {n : Nat} {lo : List LOp} (h : ∀ k : Env → Store → Prop,(∀ e' s',K .normal e' s' → k e' s') → WMix P (frn N) true n lo e s [] k)
  (hchk : mixChk ops n true = true := by first | (show mixChk _ 0 true = true; decide +kernel) | (show mixChk _ 1 true = true; decide +kernel) | (show mixChk _ 2 true = true; decide +kernel) | (show mixChk _ 3 true = true; decide +kernel) | (show mixChk _ 4 true = true; decide +kernel) | (show mixChk _ 5 true = true; decide +kernel) | (show mixChk _ 6 true = true; decide +kernel) | (show mixChk _ 7 true = true; decide +kernel) | (show mixChk _ 8 true = true; decide +kernel) | (show mixChk _ 9 true = true; decide +kernel) | (show mixChk _ 10 true = true; decide +kernel) | (show mixChk _ 11 true = true; decide +kernel) | (show mixChk _ 12 true = true; decide +kernel) | (show mixChk _ 13 true = true; decide +kernel) | (show mixChk _ 14 true = true; decide +kernel) | (show mixChk _ 15 true = true; decide +kernel) | (show mixChk _ 16 true = true; decide +kernel) | (show mixChk _ 17 true = true; decide +kernel) | (show mixChk _ 18 true = true; decide +kernel) | (show mixChk _ 19 true = true; decide +kernel) | (show mixChk _ 20 true = true; decide +kernel) | (show mixChk _ 21 true = true; decide +kernel) | (show mixChk _ 22 true = true; decide +kernel) | (show mixChk _ 23 true = true; decide +kernel) | (show mixChk _ 24 true = true; decide +kernel) | (show mixChk _ 25 true = true; decide +kernel) | (show mixChk _ 26 true = true; decide +kernel) | (show mixChk _ 27 true = true; decide +kernel) | (show mixChk _ 28 true = true; decide +kernel) | (show mixChk _ 29 true = true; decide +kernel) | (show mixChk _ 30 true = true; decide +kernel) | (show mixChk _ 31 true = true; decide +kernel) | (show mixChk _ 32 true = true; decide +kernel) | (show mixChk _ 33 true = true; decide +kernel) | (show mixChk _ 34 true = true; decide +kernel) | (show mixChk _ 35 true = true; decide +kernel) | (show mixChk _ 36 true = true; decide +kernel) | (show mixChk _ 37 true = true; decide +kernel) | (show mixChk _ 38 true = true; decide +kernel) | (show mixChk _ 39 true = true; decide +kernel) | (show mixChk _ 40 true = true; decide +kernel) | (show mixChk _ 41 true = true; decide +kernel) | (show mixChk _ 42 true = true; decide +kernel) | (show mixChk _ 43 true = true; decide +kernel) | (show mixChk _ 44 true = true; decide +kernel) | (show mixChk _ 45 true = true; decide +kernel) | (show mixChk _ 46 true = true; decide +kernel) | (show mixChk _ 47 true = true; decide +kernel) | (show mixChk _ 48 true = true; decide +kernel) | (show mixChk _ 49 true = true; decide +kernel) | (show mixChk _ 50 true = true; decide +kernel) | (show mixChk _ 51 true = true; decide +kernel) | (show mixChk _ 52 true = true; decide +kernel) | (show mixChk _ 53 true = true; decide +kernel) | (show mixChk _ 54 true = true; decide +kernel) | (show mixChk _ 55 true = true; decide +kernel) | (show mixChk _ 56 true = true; decide +kernel) | (show mixChk _ 57 true = true; decide +kernel) | (show mixChk _ 58 true = true; decide +kernel) | (show mixChk _ 59 true = true; decide +kernel) | (show mixChk _ 60 true = true; decide +kernel))
  (hl : lopsL (dsts ops.toList) ops.toList = lo := by (dsimp only [lopsL,dsts,lop,nth]) <;> rfl) [hmix : MixT P] : EvL P (frn N) m (.drawn ops) e s K := EvL.mixk2 n hmix.h hchk fun k hk => hl ▸ h k hk
theorem WMix.takeA {sw : Bool} {n : Nat} {d : Option Tmp} {op : Op} {g : Nat} {b : Bool} {r : List LOp} {f : Store} (x : WMix P (frn N) sw (n + 1) (⟨d,op,none⟩ :: r) e s f k) (h : e g = .bool b := by (simp only [vsa,vsb,vsc,Nat.reduceAdd,Nat.reduceLT,evO,ofConst,Env.upd,envOf,argEnv,reduceIte,Nat.reduceEqDiff,reduceCtorEq]) <;> rfl) (hn : (sw && n == 0) = false := by decide) : WMix P (frn N) sw (n + 1) (⟨d,op,some (some g,b)⟩ :: r) e s f k := by
 obtain ⟨hd,h1⟩ := x
 refine ⟨hd,?_⟩
 rcases h1 with ⟨v,h2,h3,_⟩ | ⟨hf,_,v,f2,hne,h2,h3⟩
 ·exact .inl ⟨v,fun t => ⟨some b,by rw [h]; rfl,fun _ => h2 t,fun hb => absurd rfl hb⟩,h3,fun h => by rw [hn] at h; cases h⟩
 ·exact .inr ⟨hf,hn,v,f2,hne,⟨some b,by rw [h]; rfl,fun _ => h2,fun hb => absurd rfl hb⟩,h3⟩
theorem WMix.passA {sw : Bool} {n : Nat} {d : Option Tmp} {op : Op} {g : Nat} {b : Bool} {r : List LOp} {f : Store} (x : WMix P (frn N) sw n r (e.upd d (.tuple [])) s f k) (h : e g = .bool (!b) := by (simp only [vsa,vsb,vsc,Nat.reduceAdd,Nat.reduceLT,evO,ofConst,Env.upd,envOf,argEnv,reduceIte,Nat.reduceEqDiff,reduceCtorEq]) <;> rfl) (hd : ∀ t,d = some t → t < N := by simp only [lga,lgb,lgc,lgd,lge,lgf,lgg,lgh,lgi,lgj,lgk,nn,reduceCtorEq,reduceIte,Nat.reduceEqDiff,Nat.reduceLT,Nat.reduceAdd,Nat.reduceMul,Nat.reduceLeDiff,Int.toNat_natCast,Int.toNat_zero,Int.toNat_one,Int.reduceToNat,Int.reduceLE,Int.reduceLT,ne_eq,eq_self,Int.natCast_zero,Int.cast_ofNat_Int,Int.natCast_add,Int.natCast_one,Int.reduceNeg,Int.reduceSub,beq_self_eq_true,bne_self_eq_false]) (hn : (sw && n == 0) = false := by decide) : WMix P (frn N) sw (n + 1) (⟨d,op,some (some g,b)⟩ :: r) e s f k :=
 WMix.cons (o := ⟨d,op,some (some g,b)⟩) (v := .tuple []) (frl hd) hn (fun t => ⟨some (!b),by rw [h]; rfl,(fun hb => by cases b <;> cases hb),(fun _ => ⟨rfl,rfl⟩)⟩) x
theorem WMix.consA {sw : Bool} (F : p) {n : Nat} {d : Option Tmp} {op : Op} {g : Option (Option Nat × Bool)} {r : List LOp} {f : Store} {v : PV} (x : WMix P (frn N) sw n r (e.upd d v) s f k)
  (hd : ∀ t,d = some t → t < N := by simp only [lga,lgb,lgc,lgd,lge,lgf,lgg,lgh,lgi,lgj,lgk,nn,reduceCtorEq,reduceIte,Nat.reduceEqDiff,Nat.reduceLT,Nat.reduceAdd,Nat.reduceMul,Nat.reduceLeDiff,Int.toNat_natCast,Int.toNat_zero,Int.toNat_one,Int.reduceToNat,Int.reduceLE,Int.reduceLT,ne_eq,eq_self,Int.natCast_zero,Int.cast_ofNat_Int,Int.natCast_add,Int.natCast_one,Int.reduceNeg,Int.reduceSub,beq_self_eq_true,bne_self_eq_false])
  (h : p → ∀ t,WG P ⟨d,op,g⟩ e (s ++ t) (fun v' s' => v' = v ∧ s' = s ++ t) := by intro hF t; simp only [WG,WOp,WCall,plainEqAt,plainEq,Option.bind_some,WLoad,WStore,rowA,readP,evO,ofConst,Env.upd,envOf,argEnv,binP,intP,strP,shiftP,lenP,lenKind,cellsP,isCell,WFieldAddr,WField,WIndexAddr,WIndex,WMake,WSlice,boundP,WBuild,fillP,WBuildSlice,fillRows,WApp,WAppend,WSrc,isDst,killP,spliceP,WNext,WRes,WClear,putRows,tyI,zoI,lga,lgb,lgc,lgd,lge,lgf,lgg,lgh,lgi,lgj,lgk,nn,reduceCtorEq,reduceIte,Nat.reduceEqDiff,Nat.reduceLT,Nat.reduceAdd,Nat.reduceMul,Nat.reduceLeDiff,Int.toNat_natCast,Int.toNat_zero,Int.toNat_one,Int.reduceToNat,Int.reduceLE,Int.reduceLT,ne_eq,eq_self,Int.natCast_zero,Int.cast_ofNat_Int,Int.natCast_add,Int.natCast_one,Int.reduceNeg,Int.reduceSub,beq_self_eq_true,bne_self_eq_false,hF] <;> (first | rfl | exact ⟨rfl,rfl⟩ | exact ⟨by omega,rfl⟩ | exact ⟨by omega,rfl,rfl⟩)) (hn : (sw && n == 0) = false := by decide) : WMix P (frn N) sw (n + 1) (⟨d,op,g⟩ :: r) e s f k := WMix.cons (frl hd) hn (h F) x
theorem WMix.bothA (F : p) {d : Option Tmp} {op : Op} {g : Option (Option Nat × Bool)} {b c : LOp} {f : Store} {v : PV} (x : WOps P (frn N) [b,c] (e.upd d v) (s ++ f) k) (y : WOps P (frn N) [b,⟨d,op,g⟩,c] e (s ++ f) k)
  (hd : ∀ t,d = some t → t < N := by simp only [lga,lgb,lgc,lgd,lge,lgf,lgg,lgh,lgi,lgj,lgk,nn,reduceCtorEq,reduceIte,Nat.reduceEqDiff,Nat.reduceLT,Nat.reduceAdd,Nat.reduceMul,Nat.reduceLeDiff,Int.toNat_natCast,Int.toNat_zero,Int.toNat_one,Int.reduceToNat,Int.reduceLE,Int.reduceLT,ne_eq,eq_self,Int.natCast_zero,Int.cast_ofNat_Int,Int.natCast_add,Int.natCast_one,Int.reduceNeg,Int.reduceSub,beq_self_eq_true,bne_self_eq_false])
  (h : p → ∀ t,WG P ⟨d,op,g⟩ e (s ++ t) (fun v' s' => v' = v ∧ s' = s ++ t) := by intro hF t; simp only [WG,WOp,WCall,plainEqAt,plainEq,Option.bind_some,WLoad,WStore,rowA,readP,evO,ofConst,Env.upd,envOf,argEnv,binP,intP,strP,shiftP,lenP,lenKind,cellsP,isCell,WFieldAddr,WField,WIndexAddr,WIndex,WMake,WSlice,boundP,WBuild,fillP,WBuildSlice,fillRows,WApp,WAppend,WSrc,isDst,killP,spliceP,WNext,WRes,WClear,putRows,tyI,zoI,lga,lgb,lgc,lgd,lge,lgf,lgg,lgh,lgi,lgj,lgk,nn,reduceCtorEq,reduceIte,Nat.reduceEqDiff,Nat.reduceLT,Nat.reduceAdd,Nat.reduceMul,Nat.reduceLeDiff,Int.toNat_natCast,Int.toNat_zero,Int.toNat_one,Int.reduceToNat,Int.reduceLE,Int.reduceLT,ne_eq,eq_self,Int.natCast_zero,Int.cast_ofNat_Int,Int.natCast_add,Int.natCast_one,Int.reduceNeg,Int.reduceSub,beq_self_eq_true,bne_self_eq_false,hF] <;> (first | rfl | exact ⟨rfl,rfl⟩ | exact ⟨by omega,rfl⟩ | exact ⟨by omega,rfl,rfl⟩)) : WMix P (frn N) true 1 [⟨d,op,g⟩,b,c] e s f k := WMix.both (frl hd) (h F) x y
theorem WMix.makeA {sw : Bool} (F : p) {n : Nat} {d : Option Tmp} {op : Op} {g : Option (Option Nat × Bool)} {r : List LOp} {v : PV} {f2 : Store} (x : WMix P (frn N) sw n r (e.upd d v) s f2 k)
  (hd : ∀ t,d = some t → t < N := by simp only [lga,lgb,lgc,lgd,lge,lgf,lgg,lgh,lgi,lgj,lgk,nn,reduceCtorEq,reduceIte,Nat.reduceEqDiff,Nat.reduceLT,Nat.reduceAdd,Nat.reduceMul,Nat.reduceLeDiff,Int.toNat_natCast,Int.toNat_zero,Int.toNat_one,Int.reduceToNat,Int.reduceLE,Int.reduceLT,ne_eq,eq_self,Int.natCast_zero,Int.cast_ofNat_Int,Int.natCast_add,Int.natCast_one,Int.reduceNeg,Int.reduceSub,beq_self_eq_true,bne_self_eq_false])
  (h : p → WG P ⟨d,op,g⟩ e s (fun v' s' => v' = v ∧ s' = s ++ f2) := by intro hF; simp only [WG,WOp,WCall,plainEqAt,plainEq,Option.bind_some,WLoad,WStore,rowA,readP,evO,ofConst,Env.upd,envOf,argEnv,binP,intP,strP,shiftP,lenP,lenKind,cellsP,isCell,WFieldAddr,WField,WIndexAddr,WIndex,WMake,WSlice,boundP,WBuild,fillP,WBuildSlice,fillRows,WApp,WAppend,WSrc,isDst,killP,spliceP,WNext,WRes,WClear,putRows,tyI,zoI,lga,lgb,lgc,lgd,lge,lgf,lgg,lgh,lgi,lgj,lgk,nn,reduceCtorEq,reduceIte,Nat.reduceEqDiff,Nat.reduceLT,Nat.reduceAdd,Nat.reduceMul,Nat.reduceLeDiff,Int.toNat_natCast,Int.toNat_zero,Int.toNat_one,Int.reduceToNat,Int.reduceLE,Int.reduceLT,ne_eq,eq_self,Int.natCast_zero,Int.cast_ofNat_Int,Int.natCast_add,Int.natCast_one,Int.reduceNeg,Int.reduceSub,beq_self_eq_true,bne_self_eq_false,hF]; exact ⟨rfl,rfl⟩) (hf : f2 ≠ [] := by exact List.cons_ne_nil _ _) (hn : (sw && n == 0) = false := by decide) : WMix P (frn N) sw (n + 1) (⟨d,op,g⟩ :: r) e s [] k := WMix.make (frl hd) hn (h F) hf x
theorem finA {rs : List ResultVar} {v : PV} {s' : Store} {x : Exit} {r : Prop} (y : r)
  (h : r → finK P m rs v s' x e s := by first | (intro y; refine ⟨trivial,?_⟩; simp only [WOp,WCall,plainEqAt,plainEq,Option.bind_some,WLoad,WStore,rowA,readP,evO,ofConst,Env.upd,envOf,argEnv,binP,intP,strP,shiftP,lenP,lenKind,cellsP,isCell,WFieldAddr,WField,WIndexAddr,WIndex,WMake,WSlice,boundP,WBuild,fillP,WBuildSlice,fillRows,WApp,WAppend,WSrc,isDst,killP,spliceP,WNext,WRes,WClear,putRows,tyI,zoI,lga,lgb,lgc,lgd,lge,lgf,lgg,lgh,lgi,lgj,lgk,nn,reduceCtorEq,reduceIte,Nat.reduceEqDiff,Nat.reduceLT,Nat.reduceAdd,Nat.reduceMul,Nat.reduceLeDiff,Int.toNat_natCast,Int.toNat_zero,Int.toNat_one,Int.reduceToNat,Int.reduceLE,Int.reduceLT,ne_eq,eq_self,Int.natCast_zero,Int.cast_ofNat_Int,Int.natCast_add,Int.natCast_one,Int.reduceNeg,Int.reduceSub,beq_self_eq_true,bne_self_eq_false]; refine RetView.done 6 ?_; simp only [deref,retV,lga,lgb,lgc,lgd,lge,lgf,lgg,lgh,lgi,lgj,lgk,nn,reduceCtorEq,reduceIte,Nat.reduceEqDiff,Nat.reduceLT,Nat.reduceAdd,Nat.reduceMul,Nat.reduceLeDiff,Int.toNat_natCast,Int.toNat_zero,Int.toNat_one,Int.reduceToNat,Int.reduceLE,Int.reduceLT,ne_eq,eq_self,Int.natCast_zero,Int.cast_ofNat_Int,Int.natCast_add,Int.natCast_one,Int.reduceNeg,Int.reduceSub,beq_self_eq_true,bne_self_eq_false]; exact y) | (intro (y : True); refine ⟨trivial,?_⟩; simp only [WOp,WCall,plainEqAt,plainEq,Option.bind_some,WLoad,WStore,rowA,readP,evO,ofConst,Env.upd,envOf,argEnv,binP,intP,strP,shiftP,lenP,lenKind,cellsP,isCell,WFieldAddr,WField,WIndexAddr,WIndex,WMake,WSlice,boundP,WBuild,fillP,WBuildSlice,fillRows,WApp,WAppend,WSrc,isDst,killP,spliceP,WNext,WRes,WClear,putRows,tyI,zoI,lga,lgb,lgc,lgd,lge,lgf,lgg,lgh,lgi,lgj,lgk,nn,reduceCtorEq,reduceIte,Nat.reduceEqDiff,Nat.reduceLT,Nat.reduceAdd,Nat.reduceMul,Nat.reduceLeDiff,Int.toNat_natCast,Int.toNat_zero,Int.toNat_one,Int.reduceToNat,Int.reduceLE,Int.reduceLT,ne_eq,eq_self,Int.natCast_zero,Int.cast_ofNat_Int,Int.natCast_add,Int.natCast_one,Int.reduceNeg,Int.reduceSub,beq_self_eq_true,bne_self_eq_false]; refine RetView.done 6 ?_; simp only [deref,retV,lga,lgb,lgc,lgd,lge,lgf,lgg,lgh,lgi,lgj,lgk,nn,reduceCtorEq,reduceIte,Nat.reduceEqDiff,Nat.reduceLT,Nat.reduceAdd,Nat.reduceMul,Nat.reduceLeDiff,Int.toNat_natCast,Int.toNat_zero,Int.toNat_one,Int.reduceToNat,Int.reduceLE,Int.reduceLT,ne_eq,eq_self,Int.natCast_zero,Int.cast_ofNat_Int,Int.natCast_add,Int.natCast_one,Int.reduceNeg,Int.reduceSub,beq_self_eq_true,bne_self_eq_false]; done)) : finK P m rs v s' x e s := h y
theorem vw {g r : Prop} (x : r) (h : r → g := by first | (intro x; simp only [StoreRen,RenObjD,RenEnv,RenL,renRows_cons_iff,renRows_nil_iff,ren_int,ren_bool,ren_str,ren_list,ren_iptr,ren_nilsl,ren_nilptr,ren_niliface,ren_nilfn,ren_any,ren_sl,ren_ptr,ren_agg,ren_tuple,ren_fn,Env.upd,envOf,argEnv,evO,lga,lgb,lgc,lgd,lge,lgf,lgg,lgh,lgi,lgj,lgk,nn,reduceCtorEq,reduceIte,Nat.reduceEqDiff,Nat.reduceLT,Nat.reduceAdd,Nat.reduceMul,Nat.reduceLeDiff,Int.toNat_natCast,Int.toNat_zero,Int.toNat_one,Int.reduceToNat,Int.reduceLE,Int.reduceLT,ne_eq,eq_self,Int.natCast_zero,Int.cast_ofNat_Int,Int.natCast_add,Int.natCast_one,Int.reduceNeg,Int.reduceSub,beq_self_eq_true,bne_self_eq_false]; exact x) | (intro (x : True); simp only [StoreRen,RenObjD,RenEnv,RenL,renRows_cons_iff,renRows_nil_iff,ren_int,ren_bool,ren_str,ren_list,ren_iptr,ren_nilsl,ren_nilptr,ren_niliface,ren_nilfn,ren_any,ren_sl,ren_ptr,ren_agg,ren_tuple,ren_fn,Env.upd,envOf,argEnv,evO,lga,lgb,lgc,lgd,lge,lgf,lgg,lgh,lgi,lgj,lgk,nn,reduceCtorEq,reduceIte,Nat.reduceEqDiff,Nat.reduceLT,Nat.reduceAdd,Nat.reduceMul,Nat.reduceLeDiff,Int.toNat_natCast,Int.toNat_zero,Int.toNat_one,Int.reduceToNat,Int.reduceLE,Int.reduceLT,ne_eq,eq_self,Int.natCast_zero,Int.cast_ofNat_Int,Int.natCast_add,Int.natCast_one,Int.reduceNeg,Int.reduceSub,beq_self_eq_true,bne_self_eq_false]; done)) : g := h x
end
end Go.Pv
namespace Go.Pv
open Go Go.RowKit
def pubA (p : PHeap) (b : Nat) (o : Obj) : PHeap := fun x => if x = b then some o else p x
theorem pubA_le {p : PHeap} {b : Nat} {o : Obj} (h : p b = none) : p.le (pubA p b o) := fun x u hx => by
 unfold pubA
 split
 ·rename_i e; subst e; rw [h] at hx; cases hx
 ·exact hx
theorem SR.show {C : Ctx} {p : PHeap} {σ : Sig} {s : Store} {w : World} (h : SR C p σ s w) (o : Obj) : SR C (pubA p w.heap.size o) σ s { w with heap := w.heap.push o } := by
 have hp : p w.heap.size = none := h.toBase.pub_size (Nat.le_refl _)
 have hnew : ∀ b,b < w.heap.size → (w.heap.push o)[b]? = w.heap[b]? := fun b hb => by
  rw [Array.getElem?_push]; rw [if_neg (by omega)]
 have hlt : ∀ i l',Alive s σ i l' → l'.b < w.heap.size := fun i l' ha => (ObjOK.alive h.obj ha).2
 exact {
  pubIn := fun b o' hb => by
   show (w.heap.push o)[b]? = _
   unfold pubA at hb
   split at hb
   ·rename_i e; subst e; cases hb; simp
   ·have := h.pubIn b o' hb
    rw [hnew b (by rcases Nat.lt_or_ge b w.heap.size with h | h; exact h; simp [Array.getElem?_eq_none h] at this)]; exact this
  obj := fun i o' hi => by
   refine (h.obj i o' hi).mono (pubA_le hp) Sig.le.rfl' fun l' hd hσ hn => ⟨hnew _ (hlt i l' ⟨o',hi,hd,hσ,hn⟩),?_⟩
   have := hlt i l' ⟨o',hi,hd,hσ,hn⟩
   unfold pubA; rw [if_neg (by omega)]
  inj := h.inj
  sig := h.sig
  os := h.os
  tape := h.tape
  output := h.output
  size := by have := h.size; simp; omega
  frame := fun b hb hd => by
   have h1 := h.frame b hb hd
   have hs := h.size
   refine ⟨(hnew b (Nat.lt_of_lt_of_le hb h.size)).trans h1.1,?_⟩
   unfold pubA; rw [if_neg (by omega)]; exact h1.2
  own := h.own
  ple := h.ple.trans (pubA_le hp)
  sle := h.sle }
section
variable {P : Program} {N : FrN} {o : Oper} {e e' : Env} {s : Store} {k : PV → Store → Prop}
def yafz (ti : TI) (x y : PV) : Option (List (List PV)) := match ti.kind,x,y with
 | .slice _ esz by' _ (some z),.clip zz xs,.list ys => if z.length = esz ∧ esz ≠ 0 ∧ by' ≠ 0 ∧ zz = esz ∧ ys ≠ [] ∧ (∀ row ∈ ys,row.length = esz) ∧ (xs.length + ys.length) * by' ≤ 140737488355328 then some (xs ++ ys) else none
 | _,_,_ => none
theorem list_run {pub : PHeap} {w : World} (hpub : ∀ b o,pub b = some o → w.heap[b]? = some o) {esz : Nat} {ys : List (List PV)} {cy : Value} (hr : Rel pub noSig (.list ys) cy) (hw : ∀ row ∈ ys,row.length = esz) :
  (Builtin.lenOf cy).run P w = .ok ys.length w ∧ ∃ arr,(Builtin.firstCells esz ys.length cy).run P w = .ok arr w ∧ arr.size = ys.length * esz ∧ RowsIn (Rel pub noSig) ys arr 0 esz := by
 have hwide : ∀ (r : Nat) (row : List PV),ys[r]? = some row → row.length = esz := fun r row hr => hw row (List.mem_of_getElem? hr)
 cases hr with
 | list0 hc =>
  rename_i a cap
  refine ⟨by simp [Builtin.lenOf],#[],?_,by simp,⟨hwide,fun r row j v c h1 => by simp at h1⟩⟩
  cases a <;> simp [Builtin.firstCells,loadCells,loadCellsFrom]
 | list hb hlen hcap hw' hsz hrel =>
  rename_i b o' cs ty fr esz' cap
  by_cases h0 : ys.length = 0
  ·have : ys = [] := List.length_eq_zero_iff.1 h0
   subst this
   exact ⟨by simp [Builtin.lenOf],#[],by simp [Builtin.firstCells,loadCells,loadCellsFrom],by simp,⟨hwide,fun r row j v c h1 => by simp at h1⟩⟩
  ·obtain rfl : esz' = esz := by
    have h5 : ys[0]? = some ys[0] := List.getElem?_eq_getElem (by omega)
    have h6 := hw' 0 _ h5
    have h7 := hwide 0 _ h5
    omega
   refine ⟨by simp [Builtin.lenOf],cs.extract o' (o' + ys.length * esz'),?_,by simp; omega,⟨hwide,fun r row j v c h1 h2 h3 => ?_⟩⟩
   ·simp only [Builtin.firstCells]; exact run_loadCells (hpub _ _ hb) _ hsz
   ·rw [Array.getElem?_extract] at h3
    split at h3
    ·exact hrel r row j v c h1 h2 (by rw [← h3]; congr 1; omega)
    ·cases h3
def WFz (P : Program) (op : Op) (e : Env) (v : PV) : Prop := match op with
 | .buildSlice T len parts => ∃ ti el esz by' ag z rows,tinfo P T = some ti ∧ ti.kind = .slice el esz by' ag (some z) ∧ z.length = esz ∧ len * esz ≤ 16777216 ∧ esz ≠ 0 ∧
   fillRows esz (List.replicate len z) (parts.toList.map fun p => (p.1,evO e p.2)) = some rows ∧ (∀ row ∈ rows,∀ c ∈ row,Closed c) ∧ v = .list rows
 | .call ⟨.builtin .append,args,Ts⟩ => ∃ x y T T2 ti ti2 rows,args = #[x,y] ∧ Ts = #[T,T2] ∧ tinfo P T = some ti ∧ tinfo P T2 = some ti2 ∧ (∀ kd,ti2.kind ≠ .int kd) ∧ yafz ti (evO e x) (evO e y) = some rows ∧ v = .list rows
 | _ => False
theorem ok_fz {v : PV} (h : WFz P o.op e v) (hkk : k v s) : OpOK P N o e s k := by
 intro C pub σ a w next Q hs he hnext
 unfold WFz at h
 split at h
 ·rename_i T len parts ho
  obtain ⟨ti,el,esz,by',ag,z,rows,ht,hk,hzl,hmax,hez,hf,hcl,rfl⟩ := h
  obtain ⟨i,d,h1,h2,rfl⟩ := tinfo_some ht
  obtain ⟨rfl,ei,hei,rfl,rfl,_,hz⟩ := tkOf_slice hk
  obtain ⟨zv,hzv,hzr⟩ := zero_relA (pub := pub) (σ := σ) hei hz
  have hzs : zv.cells.size = ei.size := by rw [← hzl,hzr.1]
  have hp := parts_rel he parts
  have hzero := zero_rows (pub := pub) (σ := σ) hei hzv (m := len) (n := len) (Nat.le_refl _) hz
  rw [hzs] at hzero
  obtain ⟨arr',h3,h4,h5,h6⟩ := fillRows_rel _ _ _ _ _ hzero (by simp) hf hp.1 hp.2
  have hlen : rows.length = len := by simpa using h6
  simp only [Array.toList_map] at h3
  have hrun : (execOp a.eval o).run P w = .ok (.value (.slice (some ⟨w.heap.size,0,none⟩) len len)) { w with heap := w.heap.push (.cells arr' el) } := by
   have hm' : ¬ (len * ei.size > 16777216) := by omega
   have er : ∀ f : Nat → Value,(Array.range 0).map f = #[] := fun f => Array.eq_empty_of_size_eq_zero (by simp)
   by_cases hz0 : len = 0
   ·subst hz0
    simp only [Nat.zero_mul,er] at h3
    simp [execOp,ho,Instr.buildSlice,run_underlying' h2,run_sizeOf' hei,er,h3,newRow]
   ·have hz1 : len * ei.size ≠ 0 := Nat.mul_ne_zero hz0 hez
    simp [execOp,ho,Instr.buildSlice,run_underlying' h2,run_sizeOf' hei,hm',hz1,zeroValue,run_typeInfo' hei,hzv,hzs,h3,newRow]
  have hp0 : pub w.heap.size = none := hs.toBase.pub_size (Nat.le_refl _)
  refine wp_value hrun (hnext _ _ _ _ _ _ hkk (hs.show (.cells arr' el)) (he.mono (pubA_le hp0) Sig.le.rfl') ?_)
  have hb : pubA pub w.heap.size (.cells arr' el) w.heap.size = some (.cells arr' el) := by simp [pubA]
  rw [← hlen]
  refine .list hb (Nat.le_refl _) ?_ h4.wide (by rw [h5,hlen]; simp) fun r row j v c hr hj hc => ?_
  ·have h7 : 0 < ei.size := by omega
   have h8 : len * 1 ≤ len * ei.size := Nat.mul_le_mul_left _ h7
   simp [maxLen]; omega
  ·exact (hcl row (List.mem_of_getElem? hr) v (List.mem_of_getElem? hj) _ _ _ (h4.rel r row j v c hr hj hc)).mono (pubA_le hp0) Sig.le.rfl'
 ·rename_i args Ts ho
  obtain ⟨x,y,T,T2,ti,ti2,rows,rfl,rfl,ht,ht2,hk2,hy,rfl⟩ := h
  obtain ⟨i,d,h1,h2,rfl⟩ := tinfo_some ht
  obtain ⟨i2,d2,_,hd2,rfl⟩ := tinfo_some ht2
  have hd : ∀ kd,d2 ≠ .int kd := by rintro kd rfl; exact hk2 kd rfl
  unfold yafz at hy
  split at hy
  ·rename_i el esz by' ag z zz xs ys hk hx hyy
   split at hy <;> cases hy
   rename_i hc
   obtain ⟨hzl,hez,hby,rfl,hne,hyw,hroom⟩ := hc
   obtain ⟨rfl,ei,hei,rfl,rfl,_,hz⟩ := tkOf_slice hk
   obtain ⟨zv,hzv,hzr⟩ := zero_relA (pub := pub) (σ := σ) hei hz
   have hzs : zv.cells.size = ei.size := by rw [← hzl,hzr.1]
   have hrx := evO_rel he x
   have hry := evO_rel he y
   obtain ⟨cx,hv⟩ : ∃ cx,a.eval x = cx := ⟨_,rfl⟩
   obtain ⟨cy,hvy⟩ : ∃ cy,a.eval y = cy := ⟨_,rfl⟩
   rw [hx,hv] at hrx
   rw [hyy,hvy] at hry
   have hry : Rel pub noSig (.list ys) cy := closed_list ys pub σ cy hry
   cases hrx with
   | clip hxw hrl =>
    rename_i aa n
    obtain rfl : n = xs.length := by cases hrl <;> rfl
    have hs1 : SR C pub σ s w.drew := hs.drawn rfl rfl rfl rfl
    obtain ⟨hly,_⟩ := list_run (P := P) hs.pubIn hry hyw
    obtain ⟨_,xa1,hfx1,hxs1,hxR1⟩ := list_run (P := P) hs1.pubIn hrl hxw
    obtain ⟨_,ya1,hfy1,hys1,hyR1⟩ := list_run (P := P) hs1.pubIn hry hyw
    have hyp : 0 < ys.length := List.length_pos_iff.2 hne
    have hexec : (execOp a.eval o).run P w = ((Builtin.append_ #[T,T2] o.type #[.slice aa xs.length xs.length,cy]).run P w).andThen fun v w' => .ok (.value v) w' := by
     simp [execOp,ho,resolve,invoke,builtin,hv,hvy]
    obtain ⟨nc,hn1,hn2,hrun⟩ := run_append_grow (ty := o.type) h2 hei hzv hd2 hd hly hfy1 hfx1 (by omega) hby hroom
    have hp0 : pub w.drew.heap.size = none := hs1.toBase.pub_size (Nat.le_refl _)
    have hR := hxR1.append hyR1 hxs1 (Builtin.zeroCells zv.cells (nc - (xs.length + ys.length))) hys1
    refine wp_value (by rw [hexec,hrun]; rfl) (hnext _ _ _ _ _ _ hkk (hs1.show (.cells (xa1 ++ ya1 ++ Builtin.zeroCells zv.cells (nc - (xs.length + ys.length))) el)) (he.mono (pubA_le hp0) Sig.le.rfl') ?_)
    have hb : pubA pub w.drew.heap.size (.cells (xa1 ++ ya1 ++ Builtin.zeroCells zv.cells (nc - (xs.length + ys.length))) el) w.heap.size = some (.cells (xa1 ++ ya1 ++ Builtin.zeroCells zv.cells (nc - (xs.length + ys.length))) el) := if_pos rfl
    have hl : (xs ++ ys).length = xs.length + ys.length := by simp
    rw [← hl] at hn1
    rw [show xs.length + ys.length = (xs ++ ys).length from hl.symm] at hb ⊢
    refine .list hb hn1 hn2 hR.wide ?_ fun r row j v c hr hj hc => ?_
    ·simp only [Array.size_append,hxs1,hys1,hl]; rw [Nat.zero_add,Nat.add_mul]; omega
    ·rw [hl] at hc; exact (hR.rel r row j v c hr hj hc).mono (pubA_le hp0) Sig.le.rfl'
  ·cases hy
 ·exact h.elim
theorem fz_congr {v : PV} {op : Op} (h : WFz P op e v) (hx : ∀ x ∈ op.operands,evO e x = evO e' x) : WFz P op e' v := by
 unfold WFz at h ⊢
 split at h
 ·rename_i T len parts
  have h2 : parts.toList.map (fun p => (p.1,evO e p.2)) = parts.toList.map fun p => (p.1,evO e' p.2) := List.map_congr_left fun p hp => by
   rw [hx p.2 (by simp only [Op.operands,List.mem_toArray,List.mem_map]; exact ⟨p,by simpa using hp,rfl⟩)]
  rw [← h2]; exact h
 ·obtain ⟨x,y,T,T2,ti,ti2,rows,rfl,rfl,h⟩ := h
  exact ⟨x,y,T,T2,ti,ti2,rows,rfl,rfl,by rw [← hx x (by simp [Op.operands,Call.operands]),← hx y (by simp [Op.operands,Call.operands])]; exact h⟩
 ·exact h.elim
def WZ (P : Program) (op : Op) (e : Env) (s : Store) (k : PV → Store → Prop) : Prop := WOp P op e s k ∨ ∃ v,WFz P op e v ∧ k v s
theorem wz_ok (h : WZ P o.op e s k) : OpOK P N o e s k := by
 rcases h with h | ⟨v,h,hk⟩
 ·exact wop_ok h
 ·exact ok_fz h hk
theorem wz_congr {op : Op} (h : WZ P op e s k) (hx : ∀ x ∈ op.operands,evO e x = evO e' x) : WZ P op e' s k := by
 rcases h with h | ⟨v,h,hk⟩
 ·exact .inl (wop_congr h hx)
 ·exact .inr ⟨v,fz_congr h hx,hk⟩
def WGZ (P : Program) (o : LOp) (e : Env) (s : Store) (k : PV → Store → Prop) : Prop := match o.g with
 | none => WZ P o.op e s k
 | some (some d,b) => ∃ t,gdV (e d) = some t ∧ (t = some b → WZ P o.op e s k) ∧ (t ≠ some b → k (.tuple []) s)
 | some (none,_) => False
theorem WG.z {o : LOp} (h : WG P o e s k) : WGZ P o e s k := by
 unfold WG at h; unfold WGZ
 split at h
 ·rename_i hg; rw [hg]; exact .inl h
 ·rename_i d b hg; rw [hg]
  obtain ⟨t,h1,h2,h3⟩ := h
  exact ⟨t,h1,fun e => .inl (h2 e),h3⟩
 ·exact h.elim
theorem WGZ.run {ops : Array Oper} {o : Oper} {k : PV → Store → Prop} {C : Ctx} {pub : PHeap} {σ : Sig} {a : Act} {w : World} {Q : Act → World → Prop} {Q' : Exit → Act → World → Prop} (h : WGZ P (lop (dsts ops.toList) o) e s k) (hN : ∀ d,o.dst = some d → d ∈ N) (hs : SR C pub σ s w) (he : ER pub σ N e a)
  (hn : ∀ v s' pub' σ' a' w',k v s' → SR C pub' σ' s' w' → ER pub' σ' N (e.upd o.dst v) a' → Q a' w') :
  if Region.wanted o (yielded ops a.tmps) then o.wp P a w Q Q' else Q (a.put o.dst undef) w := by
 have go : WZ P o.op e s k → o.wp P a w Q Q' := by
  intro hw
  refine wz_ok (N := N) hw C pub σ a w _ _ hs he ?_
  intro v s' cv pub' σ' w' hk' hs' he' hr'
  exact hn v s' pub' σ' _ w' hk' hs' (he'.put _ hN hr')
 unfold WGZ lop at h
 cases hg : o.guard with
 | none =>
  simp only [hg] at h
  have : Region.wanted o (yielded ops a.tmps) = true := by simp [Region.wanted,hg]
  rw [if_pos this]
  exact go h
 | some g =>
  obtain ⟨j,b⟩ := g
  simp only [hg] at h
  cases hx : nth (dsts ops.toList) j with
  | none => simp only [hx] at h
  | some d =>
   simp only [hx] at h
   obtain ⟨t,ht,h1,h2⟩ := h
   have hdst : (ops[j]?).bind (·.dst) = some d := by
    rw [nth_eq,dsts_eq,List.getElem?_map,Array.getElem?_toList] at hx
    cases hx' : ops[j]? with
    | none => simp [hx'] at hx
    | some oo => simpa [hx'] using hx
   have hyield := yield_of he hdst ht
   by_cases htb : t = some b
   ·have : Region.wanted o (yielded ops a.tmps) = true := by simp [Region.wanted,hg,hyield,htb]
    rw [if_pos this]
    exact go (h1 htb)
   ·have : Region.wanted o (yielded ops a.tmps) = false := by simp [Region.wanted,hg,hyield,htb]
    rw [if_neg (by simp [this])]
    exact hn _ _ _ _ _ _ (h2 htb) hs (he.put _ hN (.tuple rfl fun j v c h => by simp at h))
theorem wgz_congr {ops : Array Oper} {o : Oper} {k : PV → Store → Prop} (h : WGZ P (lop (dsts ops.toList) o) e s k) (hx : ∀ t ∈ tmpsOf o ++ guardTmp ops o,e t = e' t) : WGZ P (lop (dsts ops.toList) o) e' s k := by
 have hev : ∀ x ∈ o.op.operands,evO e x = evO e' x := by
  intro x hm
  cases x with
  | tmp t =>
   have := hx t (by
    rw [List.mem_append]; refine .inl ?_
    simp only [tmpsOf,List.mem_filterMap]
    exact ⟨.tmp t,by simpa using hm,rfl⟩)
   simpa [evO] using this
  | const v => rfl
  | global g => rfl
  | func f => rfl
 unfold WGZ lop at h ⊢
 cases hg : o.guard with
 | none => simp only [hg] at h ⊢; exact wz_congr h hev
 | some g =>
  obtain ⟨j,b⟩ := g
  simp only [hg] at h ⊢
  cases hn : nth (dsts ops.toList) j with
  | none => simp only [hn] at h
  | some d =>
   simp only [hn] at h ⊢
   obtain ⟨t,ht,h1,h2⟩ := h
   have hdst : (ops[j]?).bind (·.dst) = some d := by
    rw [nth_eq,dsts_eq,List.getElem?_map,Array.getElem?_toList] at hn
    cases hx' : ops[j]? with
    | none => simp [hx'] at hn
    | some oo => simpa [hx'] using hn
   have hd : e d = e' d := hx d (by rw [List.mem_append]; refine .inr ?_; simp [guardTmp,hg,hdst])
   exact ⟨t,by rw [← hd]; exact ht,fun h' => wz_congr (h1 h') hev,h2⟩
end
end Go.Pv
