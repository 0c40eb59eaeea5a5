import Derived.Test.YtbimioonhfhflaaDPvQd
set_option linter.unusedVariables false
set_option linter.unusedSimpArgs false
namespace Go.Pv
open Go
structure WC where
 P : Program
 m : Nat
 A : Ann
inductive KS where
 | fin (rs : List ResultVar) (f : PV → Store → Prop)
 | fpan (f : Exit → Store → Prop)
 | fany (f : Exit → AE → Store → Prop)
 | andk (k : AE → Store → Prop) (K : KS)
 | seq (c : XC) (K : KS)
 | block (i : Nat) (K : KS)
 | round (i : Nat) (Q : AE → Store → Prop) (K : KS)
def KS.run (C : WC) : KS → KA
 | .fin rs f=>wfin C.P rs f
 | .fpan f=>fun x _ s=>f x s
 | .fany f=>f
 | .andk k K=>seqA k (run C K)
 | .seq c K=>seqA (fun e s=>wexec C.P C.m C.A c e s (run C K)) (run C K)
 | .block i K=>blockA i (run C K)
 | .round i Q K=>roundA C.m (C.A.loopOf i) Q (run C K)
def X (C : WC) (c : XC) (e : AE) (s : Store) (K : KS) : Prop:=wexec C.P C.m C.A c e s (K.run C)
def E (C : WC) (K : KS) (x : Exit) (e : AE) (s : Store) : Prop:=K.run C x e s
inductive Md where
 | pl | dr
 | mx (lo : Option LOp) (n : Nat) (f : Store)
def O (C : WC) : Md → List LOp → AE → Store → KS → Prop
 | .pl,ops,e,s,K=>wops C.P C.m ops e s (K.run C)
 | .dr,ops,e,s,K=>dops C.P ops e s (K.run C .normal)
 | .mx lo n f,ops,e,s,K=>mops C.P lo n ops e s f (K.run C .normal)
def SO (C : WC) (md : Md) (o : Option (PV × Store)) (d : Option Tmp) (ops : List LOp) (e : AE) (K : KS) : Prop:=Sat o fun p=>O C md ops (updA e d p.1) p.2 K
def RO (C : WC) (md : Md) (o : Option (PV × Store)) (d : Option Tmp) (ops : List LOp) (e : AE) (s : Store) (K : KS) : Prop:=Sat o fun p=>O C md ops (updA e d p.1) s K
def MO (C : WC) (lo : Option LOp) (n : Nat) (o : Option (PV × Store)) (d : Option Tmp) (ops : List LOp) (e : AE) (s : Store) (K : KS) : Prop:=
 Sat o fun p=>s.length < p.2.length ∧ p.2 = s ++ p.2.drop s.length ∧ O C (.mx lo n (p.2.drop s.length)) ops (updA e d p.1) s K
def LO (C : WC) (o : Option Nat) (d : Option Tmp) (ops : List LOp) (e : AE) (s : Store) (K : KS) : Prop:=Sat o fun n=>n ≤ maxLen → O C .pl ops (updA e d (.int .i64 (n : Int))) s K
def FO (C : WC) (F : List Nat) (T : TypeId) (len : Nat) (parts : Array (Nat × Operand)) (d : Option Tmp) (ops : List LOp) (e : AE) (s : Store) (K : KS) : Prop:=
 FrzW F e s fun e s=>SO C .pl (xop C.P (.buildSlice T len parts) (envOf e) s) d ops e K
def CL (C : WC) (f : Operand) (args : Array Operand) (d : Option Tmp) (r : Option (FuncId × List PV)) (ops : List LOp) (e : AE) (s : Store) (K : KS) : Prop:=CallA C.P C.m f args d r e s (K.run C) fun e s=>O C .pl ops e s K
def CD (C : WC) (d : Option Tmp) (r : Option (FuncId × List PV)) (ops : List LOp) (e : AE) (s : Store) (K : KS) : Prop:=CallD C.P d r e s fun e s=>O C .dr ops e s K
def CM (C : WC) (lo : Option LOp) (n : Nat) (f : Store) (d : Option Tmp) (r : Option (FuncId × List PV)) (ops : List LOp) (e : AE) (s : Store) (K : KS) : Prop:=CallM C.P r s fun v=>O C (.mx lo n f) ops (updA e d v) s K
def VO (C : WC) (o : Option PV) (d : Option Tmp) (ops : List LOp) (e : AE) (s : Store) (K : KS) : Prop:=Sat o fun v=>O C .pl ops (updA e d v) s K
def EO (C : WC) (b : Bool) (T : TypeId) (o : Option (PV × Store)) (d : Option Tmp) (ops : List LOp) (e : AE) (s : Store) (K : KS) : Prop:=
 if b = true then Sat (tinfo C.P T) fun ti=>isSlk ti.kind = true ∧ ∀ b,O C .pl ops (updA e d (.bool b)) s K else SO C .pl o d ops e K
def PN (C : WC) (o : Option Value) (e : AE) (s : Store) (K : KS) : Prop:=Sat o fun v=>E C K (pan1 v) e s
def O1 (C : WC) (d : Option Tmp) (op : Op) (r : List LOp) (e : AE) (s : Store) (K : KS) : Prop:=match op with
 | .call ⟨.value f,args,_⟩=>CL C f args d (fnArgs f args (envOf e)) r e s K
 | .call ⟨.builtin .len,args,Ts⟩=>match args.toList,Ts.toList with
  | [x],[T]=>LO C ((tinfo C.P T).bind fun ti=>xlen ti (evO (envOf e) x)) d r e s K
  | _,_=>False
 | .buildSlice T len parts=>FO C (nests s (parts.toList.map fun p=>evO (envOf e) p.2)) T len parts d r e s K
 | .makeInterface T x=>VO C (xiface C.P T (evO (envOf e) x)) d r e s K
 | .typeAssert x _ A ok=>VO C (xassert C.P A ok (evO (envOf e) x)) d r e s K
 | .panic x=>PN C (panP (evO (envOf e) x)) e s K
 | .binOp .eql T x (.const .nilIface) _=>VO C (xnilI C.P T (evO (envOf e) x)) d r e s K
 | .binOp .eql T x y z=>EO C (isE0 (evO (envOf e) x) (evO (envOf e) y)) T (xop C.P (.binOp .eql T x y z) (envOf e) s) d r e s K
 | op=>SO C .pl (xop C.P op (envOf e) s) d r e K
def D1 (C : WC) (d : Option Tmp) (op : Op) (r : List LOp) (e : AE) (s : Store) (K : KS) : Prop:=match op with
 | .call ⟨.value f,args,_⟩=>CD C d (fnArgs f args (envOf e)) r e s K
 | op=>SO C .dr (xop C.P op (envOf e) s) d r e K
def ZO (C : WC) (lo : Option LOp) (n : Nat) (f : Store) (o : Option (List (List PV))) (d : Option Tmp) (ops : List LOp) (e : AE) (s : Store) (K : KS) : Prop:=
 Sat o fun rows=>(∀ row ∈ rows,∀ c ∈ row,Closed c) ∧ O C (.mx lo n f) ops (updA e d (.list rows)) s K
def ZA (C : WC) (lo : Option LOp) (n : Nat) (f : Store) (o : Option (List (List PV))) (d : Option Tmp) (ops : List LOp) (e : AE) (s : Store) (K : KS) : Prop:=
 Sat o fun rows=>O C (.mx lo n f) ops (updA e d (.list rows)) s K
def M1 (C : WC) (lo : Option LOp) (n : Nat) (f : Store) (d : Option Tmp) (op : Op) (r : List LOp) (e : AE) (s : Store) (K : KS) : Prop:=match op with
 | .call ⟨.value g,args,_⟩=>CM C lo n f d (fnArgs g args (envOf e)) r e s K
 | .buildSlice T len parts=>if isZ lo = true then ZO C lo n f (xfz C.P T len parts (envOf e)) d r e s K else f = [] ∧ lateNe lo d ∧ MO C lo n (xop C.P (.buildSlice T len parts) (envOf e) s) d r e s K
 | .call ⟨.builtin .append,args,Ts⟩=>if isZ lo = true ∧ fzDst args (envOf e) = true then ZA C lo n f (xafz C.P args Ts (envOf e)) d r e s K else f = [] ∧ lateNe lo d ∧ MO C lo n (xop C.P (.call ⟨.builtin .append,args,Ts⟩) (envOf e) s) d r e s K
 | op=>if isRead op = true then RO C (.mx lo n f) (xop C.P op (envOf e) s) d r e s K else f = [] ∧ lateNe lo d ∧ MO C lo n (xop C.P op (envOf e) s) d r e s K
def Md.less : Md → Md
 | .mx lo (n + 1) f=>.mx lo n f
 | md=>md
def BO (C : WC) (md : Md) (v : PV) (b : Bool) (c : Nat) (d : Option Tmp) (op : Op) (r : List LOp) (e : AE) (s : Store) (K : KS) : Prop:=
 GdW v b c e (fun e=>O C md (⟨d,op,none⟩ :: r) e s K) (fun e=>O C md.less r (updA e d (.tuple [])) s K)
def BX (C : WC) (v : PV) (c : Operand) (a b : XC) (e : AE) (s : Store) (K : KS) : Prop:=
 BoolW v fun t=>IfW t (X C a (condE e c true) s K) (X C b (condE e c false) s K)
def DR (C : WC) (k : Cls) (ops : List LOp) (e : AE) (s : Store) (K : KS) : Prop:=match k with
 | .draw=>O C .dr ops e s K
 | .mix n=>O C (.mx none n []) ops e s K
 | .mixz n=>O C (.mx (some markZ) n []) ops e s K
 | .mix3 n L=>O C (.mx ops[L]? n []) ops e s K
 | .mixz3 n L=>O C (.mx (ops[L]?.map zmk) n []) ops e s K
 | .tree t=>tops C.P (resolve false ops t) e s (K.run C) (K.run C .normal)
 | .treez t=>tops C.P (resolve true ops t) e s (K.run C) (K.run C .normal)
def TR (C : WC) (t : RT) (e : AE) (s : Store) (K : KS) : Prop:=tops C.P t e s (K.run C) (K.run C .normal)
def TO (C : WC) (o : Option (PV × Store)) (d : Option Tmp) (t : RT) (e : AE) (K : KS) : Prop:=Sat o fun p=>TR C t (updA e d p.1) p.2 K
def TZ (C : WC) (o : Option (List (List PV))) (d : Option Tmp) (op : Op) (t : RT) (e : AE) (s : Store) (K : KS) : Prop:=Sat o fun rows=>xzcl op rows ∧ TR C t (updA e d (.list rows)) s K
def CT (C : WC) (d : Option Tmp) (r : Option (FuncId × List PV)) (t : RT) (e : AE) (s : Store) (K : KS) : Prop:=CallT C.P d r e s (K.run C) fun e s=>TR C t e s K
def TKv (o : Option (PV × Store)) (v : PV) : Prop:=Sat o fun p=>p.1 = v
def G (C : WC) (V : List (Nat × Option Nat × Nat)) (T : List (Nat × Nat × Nat)) (L : List Nat) (e : AE) (s : Store) (q : AE → Store → Prop) : Prop:=withGc C.m V T L e s q
def DF (C : WC) (F : List Nat) (k : Cls) (ops : List LOp) (e : AE) (s : Store) (K : KS) : Prop:=FrzW F e s fun e s=>DR C k ops e s K
def RS (C : WC) (i : Nat) (L : List Nat) (ops : List LOp) (e : AE) (s : Store) (K : KS) : Prop:=RshW L e s fun e s=>DF C (nests s ((C.A.frzOf i).map (envOf e))) (C.A.clsOf i) ops e s K
def RV (C : WC) (i t : Nat) (o : Option (Nat × Nat × List PV)) (L : List Nat) (ops : List LOp) (e : AE) (s : Store) (K : KS) : Prop:=
 RshO o (fun j off row=>RS C i L ops ((t,.ptr s.length 0 off) :: e) (s.set j .dead ++ [.rows 1 (row.map fun x=>[x])]) K) (RS C i L ops e s K)
def W (C : WC) (i : Nat) (c : XC) (K : KS) (e : AE) (s : Store) : Prop:=∀ Q : AE → Store → Prop,(∀ e s,X C c e s (.round i Q (.block i K)) → Q e s) → Q e s
def refsL (e : AE) : List Nat → List (Nat × Bool)
 | []=>[]
 | t :: r=>refsN 4 (envOf e t) ++ refsL e r
def liveE (ρ : List Nat) (e : AE) : List Nat → AE
 | []=>[]
 | t :: r=>(t,renN ρ 4 (envOf e t)) :: liveE ρ e r
def liveS (ρ : List Nat) (s : Store) : List Nat → Store
 | []=>[]
 | i :: r=>renObj ρ ((s[i]?).getD .dead) :: liveS ρ s r
def H (ρ : List Nat) (L : List Nat) (e : AE) (s : Store) (q : AE → Store → Prop) : Prop:=q (liveE ρ e L) (liveS ρ s ρ)
def V0 (C : WC) (v : PV) (t z : Nat) (V : List (Nat × Option Nat × Nat)) (T : List (Nat × Nat × Nat)) (L : List Nat) (e : AE) (s : Store) (q : AE → Store → Prop) : Prop:=
 VoidW v (G C V T L ((t,.sl s.length 0 0) :: e) (s ++ [.rows z []]) q) (G C V T L e s q)
def V1 (C : WC) (o : Option (Nat × Nat × List PV)) (j z : Nat) (V : List (Nat × Option Nat × Nat)) (T : List (Nat × Nat × Nat)) (L : List Nat) (e : AE) (s : Store) (q : AE → Store → Prop) : Prop:=
 VoidR o (fun i z' row=>G C V T L e (s.set i (.rows z' [row.set (j % 1000) (.sl s.length 0 0)]) ++ [.rows z []]) q) (G C V T L e s q)
def FN (o : Option (List PV)) (f : PV → Store → Prop) (s : Store) : Prop:=Sat o fun vs=>f (retV vs) s
section
variable {C : WC} {e : AE} {s f : Store} {K : KS} {a b c : XC} {ops r : List LOp} {d : Option Tmp} {op : Op} {v : PV} {md : Md} {i : Nat} {q : AE → Store → Prop} {V : List (Nat × Option Nat × Nat)} {T : List (Nat × Nat × Nat)} {L ρ : List Nat}
@[simp] theorem X_skip : X C .skip e s K = E C K .normal e s:=rfl
@[simp] theorem X_ret : X C .ret e s K = E C K .ret e s:=rfl
@[simp] theorem X_exit : X C (.exit i) e s K = E C K (.exit i) e s:=rfl
@[simp] theorem X_other : X C .other e s K = False:=rfl
@[simp] theorem X_reg : X C (.reg ops) e s K = O C .pl ops e s K:=rfl
@[simp] theorem X_drawn : X C (.drawn i ops) e s K = RS C i (C.A.frzOf i) ops e s K:=by
 simp only [X,wexec,RS,DF,DR];generalize C.A.clsOf i = k;cases k <;> rfl
@[simp] theorem RS_nil : RS C i [] ops e s K = DF C (nests s ((C.A.frzOf i).map (envOf e))) (C.A.clsOf i) ops e s K:=rfl
@[simp] theorem RS_cons {t : Nat} : RS C i (t :: L) ops e s K = if 10000 ≤ t then RV C i (t - 10000) (rshV s (envOf e (t - 10000))) L ops e s K else RS C i L ops e s K:=rfl
@[simp] theorem RV_none {t : Nat} : RV C i t none L ops e s K = RS C i L ops e s K:=rfl
@[simp] theorem RV_some {t j off : Nat} {row : List PV} : RV C i t (some (j,off,row)) L ops e s K = RS C i L ops ((t,.ptr s.length 0 off) :: e) (s.set j .dead ++ [.rows 1 (row.map fun x=>[x])]) K:=rfl
@[simp] theorem rshV_ptr {j off : Nat} : rshV s (.ptr j 0 off) = rshObj j off s[j]?:=rfl
@[simp] theorem rshObj_row {j off z : Nat} {row : List PV} : rshObj j off (some (.rows z [row])) = some (j,off,row):=rfl
@[simp] theorem DF_nil {k : Cls} : DF C [] k ops e s K = DR C k ops e s K:=rfl
@[simp] theorem DF_cons {k : Cls} {i : Nat} {F : List Nat} : DF C (i :: F) k ops e s K = DR C k ops (withFrz (i :: F) e s).1 (withFrz (i :: F) e s).2 K:=rfl
@[simp] theorem X_seq : X C (.seq a b) e s K = X C a e s (.seq b K):=rfl
@[simp] theorem X_cond {t : Operand} : X C (.cond t a b) e s K = BX C (evO (envOf e) t) t a b e s K:=rfl
@[simp] theorem X_block : X C (.block i c) e s K = X C c e s (.block i K):=rfl
@[simp] theorem DR_draw : DR C .draw ops e s K = O C .dr ops e s K:=rfl
@[simp] theorem DR_mix {n : Nat} : DR C (.mix n) ops e s K = O C (.mx none n []) ops e s K:=rfl
@[simp] theorem DR_mixz {n : Nat} : DR C (.mixz n) ops e s K = O C (.mx (some markZ) n []) ops e s K:=rfl
@[simp] theorem DR_mix3 {n L : Nat} : DR C (.mix3 n L) ops e s K = O C (.mx ops[L]? n []) ops e s K:=rfl
@[simp] theorem DR_mixz3 {n L : Nat} : DR C (.mixz3 n L) ops e s K = O C (.mx (ops[L]?.map zmk) n []) ops e s K:=rfl
@[simp] theorem zmk_eq {op' : Op} {g' : Option (Option Tmp × Bool)} : zmk ⟨d,op',g'⟩ = ⟨d,op',some (none,true)⟩:=rfl
@[simp] theorem DR_tree {t : MT} : DR C (.tree t) ops e s K = TR C (resolve false ops t) e s K:=rfl
@[simp] theorem DR_treez {t : MT} : DR C (.treez t) ops e s K = TR C (resolve true ops t) e s K:=rfl
@[simp] theorem TR_fin : TR C .fin e s K = E C K .normal e s:=rfl
@[simp] theorem TR_bad : TR C .bad e s K = False:=rfl
@[simp] theorem TR_op {t : RT} : TR C (.op d op t) e s K = TO C (xop C.P op (envOf e) s) d t e K:=rfl
@[simp] theorem TR_ck {t : RT} {d : Nat} : TR C (.ck d op t) e s K = (TKv (xop C.P op (envOf e) s) (envOf e d) ∧ TR C t e s K):=rfl
@[simp] theorem TR_call {t : RT} {g : Operand} {args : Array Operand} : TR C (.call d g args t) e s K = CT C d (fnArgs g args (envOf e)) t e s K:=rfl
@[simp] theorem TR_zop {t : RT} : TR C (.zop d op t) e s K = TZ C (xzop C.P op (envOf e)) d op t e s K:=rfl
@[simp] theorem TZ_some {t : RT} {rows : List (List PV)} : TZ C (some rows) d op t e s K = (xzcl op rows ∧ TR C t (updA e d (.list rows)) s K):=rfl
@[simp] theorem TZ_none {t : RT} : TZ C none d op t e s K = False:=rfl
@[simp] theorem xzop_build {P : Program} {T : TypeId} {len : Nat} {parts : Array (Nat × Operand)} {E : Env} : xzop P (.buildSlice T len parts) E = xfz P T len parts E:=rfl
@[simp] theorem xzop_app {P : Program} {args : Array Operand} {Ts : Array TypeId} {E : Env} : xzop P (.call ⟨.builtin .append,args,Ts⟩) E = xafz P args Ts E:=rfl
@[simp] theorem xzcl_build {T : TypeId} {len : Nat} {parts : Array (Nat × Operand)} {rows : List (List PV)} : xzcl (.buildSlice T len parts) rows = ∀ row ∈ rows,∀ c ∈ row,Closed c:=rfl
@[simp] theorem xzcl_app {args : Array Operand} {Ts : Array TypeId} {rows : List (List PV)} : xzcl (.call ⟨.builtin .append,args,Ts⟩) rows = True:=rfl
@[simp] theorem TR_br {t u : RT} : TR C (.br t u) e s K = (TR C t e s K ∧ TR C u e s K):=rfl
@[simp] theorem TO_some {t : RT} {s' : Store} : TO C (some (v,s')) d t e K = TR C t (updA e d v) s' K:=rfl
@[simp] theorem TO_none {t : RT} : TO C none d t e K = False:=rfl
@[simp] theorem TK_some {u : PV} {s' : Store} : TKv (some (v,s')) u = (v = u):=rfl
@[simp] theorem TK_none {u : PV} : TKv none u = False:=rfl
attribute [simp] resolve rtOp rtCk nthL
@[simp high] theorem BX_true {t : Operand} : BX C (.bool true) t a b e s K = X C a (condE e t true) s K:=rfl
@[simp high] theorem BX_false {t : Operand} : BX C (.bool false) t a b e s K = X C b (condE e t false) s K:=rfl
theorem BX_bool {t : Operand} {u : Bool} : BX C (.bool u) t a b e s K = ((u = true → X C a (condE e t true) s K) ∧ (u = false → X C b (condE e t false) s K)):=by
 cases u <;> simp [BX,BoolW,IfW]
@[simp] theorem condE_tmp {n : Nat} {u : Bool} : condE e (.tmp n) u = (n,.bool u) :: e:=rfl
@[simp] theorem condE_const {n : Value} {u : Bool} : condE e (.const n) u = e:=rfl
@[simp] theorem upd_some {n : Nat} : updA e (some n) v = (n,v) :: e:=rfl
@[simp] theorem upd_none : updA e none v = e:=rfl
@[simp] theorem E_seq_normal : E C (.seq c K) .normal e s = X C c e s K:=rfl
@[simp] theorem E_seq_ret : E C (.seq c K) .ret e s = E C K .ret e s:=rfl
@[simp] theorem E_seq_exit : E C (.seq c K) (.exit i) e s = E C K (.exit i) e s:=rfl
@[simp] theorem E_block_normal : E C (.block i K) .normal e s = E C K .normal e s:=rfl
@[simp] theorem E_block_ret : E C (.block i K) .ret e s = E C K .ret e s:=rfl
@[simp] theorem E_block_exit {j : Nat} : E C (.block i K) (.exit j) e s = if j = i then E C K .normal e s else E C K (.exit j) e s:=rfl
@[simp] theorem E_round_normal {Q : AE → Store → Prop} : E C (.round i Q K) .normal e s = G C (C.A.loopOf i).1 (tabsOf (C.A.loopOf i).1) (C.A.loopOf i).2.1 e s Q:=rfl
@[simp] theorem E_round_ret {Q : AE → Store → Prop} : E C (.round i Q K) .ret e s = G C [] (tabsX (C.A.loopOf i).2.2 (tabsOf (C.A.loopOf i).1)) (C.A.loopOf i).2.2 e s (E C K .ret):=rfl
@[simp] theorem E_round_exit {j : Nat} {Q : AE → Store → Prop} : E C (.round i Q K) (.exit j) e s = G C [] (tabsX (C.A.loopOf i).2.2 (tabsOf (C.A.loopOf i).1)) (C.A.loopOf i).2.2 e s (E C K (.exit j)):=rfl
@[simp] theorem E_fin_normal {rs : List ResultVar} {f : PV → Store → Prop} : E C (.fin rs f) .normal e s = FN (xres C.P (envOf e) s rs) f s:=rfl
@[simp] theorem E_fin_ret {rs : List ResultVar} {f : PV → Store → Prop} : E C (.fin rs f) .ret e s = FN (xres C.P (envOf e) s rs) f s:=rfl
@[simp] theorem E_seq_pan {v : Value} : E C (.seq c K) (pan1 v) e s = E C K (pan1 v) e s:=rfl
@[simp] theorem E_block_pan {v : Value} : E C (.block i K) (pan1 v) e s = E C K (pan1 v) e s:=rfl
@[simp] theorem E_round_pan {v : Value} {Q : AE → Store → Prop} : E C (.round i Q K) (pan1 v) e s = G C [] (tabsX (C.A.loopOf i).2.2 (tabsOf (C.A.loopOf i).1)) (C.A.loopOf i).2.2 e s (E C K (pan1 v)):=rfl
@[simp] theorem E_fin_pan {v : Value} {rs : List ResultVar} {f : PV → Store → Prop} : E C (.fin rs f) (pan1 v) e s = False:=rfl
@[simp] theorem E_fany {x : Exit} {f : Exit → AE → Store → Prop} : E C (.fany f) x e s = f x e s:=rfl
@[simp] theorem E_andk_normal {k : AE → Store → Prop} : E C (.andk k K) .normal e s = k e s:=rfl
@[simp] theorem E_andk_ret {k : AE → Store → Prop} : E C (.andk k K) .ret e s = E C K .ret e s:=rfl
@[simp] theorem E_andk_exit {k : AE → Store → Prop} : E C (.andk k K) (.exit i) e s = E C K (.exit i) e s:=rfl
@[simp] theorem E_andk_pan {k : AE → Store → Prop} {v : Value} : E C (.andk k K) (pan1 v) e s = E C K (pan1 v) e s:=rfl
@[simp] theorem E_fpan {x : Exit} {f : Exit → Store → Prop} : E C (.fpan f) x e s = f x s:=rfl
@[simp] theorem EO_false {T : TypeId} {o : Option (PV × Store)} : EO C false T o d r e s K = SO C .pl o d r e K:=rfl
@[simp] theorem EO_true {T : TypeId} {o : Option (PV × Store)} : EO C true T o d r e s K = Sat (tinfo C.P T) fun ti=>isSlk ti.kind = true ∧ ∀ b,O C .pl r (updA e d (.bool b)) s K:=rfl
@[simp] theorem e0_int {y : PV} {k : IntKind} {n : Int} : isE0 (.int k n) y = false:=rfl
@[simp] theorem e0_bool {y : PV} {b : Bool} : isE0 (.bool b) y = false:=rfl
@[simp] theorem e0_str {y : PV} {b : ByteArray} : isE0 (.str b) y = false:=rfl
@[simp] theorem e0_agg {y : PV} {b : List PV} : isE0 (.agg b) y = false:=rfl
@[simp] theorem e0_nilsl {y : PV} : isE0 .nilsl y = false:=rfl
@[simp] theorem e0_sl {y : PV} {i o n : Nat} : isE0 (.sl i o n) y = false:=rfl
@[simp] theorem e0_nil : isE0 (.list []) .nilsl = true:=rfl
@[simp] theorem e0_cons {a : List PV} {l : List (List PV)} {y : PV} : isE0 (.list (a :: l)) y = false:=rfl
@[simp] theorem e0_list {l : List (List PV)} {y : PV} (h : 0 < l.length) : isE0 (.list l) y = false:=by cases l <;> first | (simp at h;done) | rfl
@[simp] theorem e0_iface {y : PV} {t : TypeId} {v : PV} : isE0 (.iface t v) y = false:=rfl
@[simp] theorem e0_niliface {y : PV} : isE0 .niliface y = false:=rfl
@[simp] theorem VO_some {v : PV} : VO C (some v) d r e s K = O C .pl r (updA e d v) s K:=rfl
@[simp] theorem VO_none : VO C none d r e s K = False:=rfl
@[simp] theorem PN_some {v : Value} : PN C (some v) e s K = E C K (pan1 v) e s:=rfl
@[simp] theorem PN_none : PN C none e s K = False:=rfl
@[simp] theorem E_fin_exit {rs : List ResultVar} {f : PV → Store → Prop} : E C (.fin rs f) (.exit i) e s = False:=rfl
@[simp] theorem FN_some {f : PV → Store → Prop} {vs : List PV} : FN (some vs) f s = f (retV vs) s:=rfl
@[simp] theorem FN_none {f : PV → Store → Prop} : FN none f s = False:=rfl
@[simp] theorem G_nil : G C [] [] L e s q = (C.m ≤ s.length ∧ H (grow s 64 (mrefs s C.m ++ refsL e L) (List.range C.m)) L e s q):=by
 have h1 : ∀ L : List Nat,(L.flatMap fun t=>refsN 4 (envOf e t)) = refsL e L:=by
  intro L;induction L with
  | nil=>rfl
  | cons t r ih=>rw [List.flatMap_cons,ih];rfl
 have h2 : ∀ (ρ L : List Nat),(L.map fun t=>(t,renN ρ 4 (envOf e t))) = liveE ρ e L:=by
  intro ρ L;induction L with
  | nil=>rfl
  | cons t r ih=>rw [List.map_cons,ih];rfl
 have h3 : ∀ (ρ L : List Nat),(L.map fun i=>renObj ρ ((s[i]?).getD .dead)) = liveS ρ s L:=by
  intro ρ L;induction L with
  | nil=>rfl
  | cons t r ih=>rw [List.map_cons,ih];rfl
 simp only [G,withGc,voids,voidTs,growT,gcStep,h1,h2,h3,H]
@[simp] theorem mrefs_zero {s : Store} : mrefs s 0 = []:=rfl
@[simp] theorem mrefs_succ {s : Store} {m : Nat} : mrefs s (m + 1) = mrefs s m ++ growObj s[m]?:=rfl
@[simp] theorem growObj_rows0 {n : Nat} : growObj (some (.rows n [])) = []:=rfl
def HT (C : WC) (T : List (Nat × Nat × Nat)) (L : List Nat) (e : AE) (s : Store) (q : AE → Store → Prop) : Prop:=withGc C.m [] T L e s q
@[simp] theorem G_tab {p : Nat × Nat × Nat} : G C [] (p :: T) L e s q = HT C (p :: T) L e s q:=rfl
@[simp] theorem tabsOf_nil : tabsOf [] = []:=rfl
@[simp] theorem tabsOf_none {t z : Nat} {r : List (Nat × Option Nat × Nat)} : tabsOf ((t,none,z) :: r) = tabsOf r:=rfl
@[simp] theorem tabsOf_some {t j z : Nat} {r : List (Nat × Option Nat × Nat)} : tabsOf ((t,some j,z) :: r) = if 4000 ≤ j ∧ j < 5000 then (t,j - 4000,z) :: tabsOf r else tabsOf r:=rfl
@[simp] theorem tabsX_nil : tabsX L [] = []:=rfl
@[simp] theorem tabsX_cons {p : Nat × Nat × Nat} : tabsX L (p :: T) = if p.1 ∈ L then p :: tabsX L T else tabsX L T:=rfl
theorem voids_all {Z : (AE → Store → Prop) → Prop} : ∀ (V : List (Nat × Option Nat × Nat)) (e : AE) (s : Store) (q : (AE → Store → Prop) → AE → Store → Prop),
  (∀ Q,Z Q → voids V e s (q Q)) = voids V e s fun e s=>∀ Q,Z Q → q Q e s
 | [],e,s,q=>rfl
 | (t,none,z) :: r,e,s,q=>by
  simp only [voids]
  unfold VoidW
  split
  ·exact voids_all r _ _ q
  ·exact voids_all r _ _ q
 | (t,some j,z) :: r,e,s,q=>by
  simp only [voids]
  unfold GvW
  split
  ·unfold FrzT
   dsimp only
   split
   ·exact voids_all r _ _ q
   ·exact voids_all r _ _ q
   ·exact voids_all r _ _ q
  unfold VoidR
  split
  ·exact voids_all r _ _ q
  ·exact voids_all r _ _ q
@[simp] theorem X_bloop : X C (.bloop i c) e s K = G C (C.A.loopOf i).1 (tabsOf (C.A.loopOf i).1) (C.A.loopOf i).2.1 e s (W C i c K):=by
 show (∀ Q : AE → Store → Prop,_ → withGc _ _ _ _ _ _ Q) = _
 unfold G withGc
 rw [voids_all]
 congr 1
 funext e s
 apply propext;constructor
 ·intro h
  by_cases hm : C.m ≤ (voidTs e (tabsOf (C.A.loopOf i).1) s).length
  ·exact ⟨hm,fun Q hQ=>(h Q hQ).2⟩
  ·exact absurd (h (fun _ _=>True) (fun _ _ _=>trivial)).1 hm
 ·rintro ⟨hm,h⟩ Q hQ
  exact ⟨hm,h Q hQ⟩
@[simp] theorem G_slot {t z : Nat} : G C ((t,none,z) :: V) T L e s q = V0 C (envOf e t) t z V T L e s q:=rfl
def V2 (C : WC) (v : PV) (V : List (Nat × Option Nat × Nat)) (T : List (Nat × Nat × Nat)) (L : List Nat) (e : AE) (s : Store) (q : AE → Store → Prop) : Prop:=
 FrzT v (fun k=>G C V T L (withFrz [k] e s).1 (withFrz [k] e s).2 q) (G C V T L e s q)
def VG (C : WC) (o : Option Nat) (t j z : Nat) (V : List (Nat × Option Nat × Nat)) (T : List (Nat × Nat × Nat)) (L : List Nat) (e : AE) (s : Store) (q : AE → Store → Prop) : Prop:=match o with
 | some c=>V2 C (tabCell s c (envOf e t)) V T L e s q
 | none=>V1 C (voidRow s j (envOf e t)) j z V T L e s q
@[simp] theorem G_cell {t j z : Nat} : G C ((t,some j,z) :: V) T L e s q = VG C (gvC j) t j z V T L e s q:=by
 simp only [G,withGc,voids,GvW,VG]
 cases gvC j <;> rfl
@[simp] theorem VG_some {c t j z : Nat} : VG C (some c) t j z V T L e s q = V2 C (tabCell s c (envOf e t)) V T L e s q:=rfl
@[simp] theorem VG_none {t j z : Nat} : VG C none t j z V T L e s q = V1 C (voidRow s j (envOf e t)) j z V T L e s q:=rfl
@[simp] theorem gvC_eq {j : Nat} : gvC j = if 5000 ≤ j then some (j - 5000) else none:=rfl
@[simp] theorem tabCell_zero {s : Store} {v : PV} : tabCell s 0 v = v:=rfl
def cellAt (c : Nat) : Option PObj → PV
 | some (.rows _ [row])=>(row[c]?).getD .any
 | _=>.any
@[simp] theorem tabCell_ptr {s : Store} {c i : Nat} : tabCell s (c + 1) (.ptr i 0 0) = cellAt c s[i]?:=by
 unfold cellAt;rw [tabCell];rcases s[i]? with _ | (_ | ⟨z,_ | ⟨row,_ | _⟩⟩ | _ | _) <;> rfl
@[simp] theorem cellAt_some {z c : Nat} {row : List PV} : cellAt c (some (.rows z [row])) = (row[c]?).getD .any:=rfl
@[simp] theorem V2_sl {k off len : Nat} : V2 C (.sl k off len) V T L e s q = G C V T L (withFrz [k] e s).1 (withFrz [k] e s).2 q:=rfl
@[simp] theorem V2_map {k : Nat} : V2 C (.mapv k) V T L e s q = G C V T L (withFrz [k] e s).1 (withFrz [k] e s).2 q:=rfl
@[simp] theorem V2_imap {es : List (PV × PV)} : V2 C (.imap es) V T L e s q = G C V T L e s q:=rfl
@[simp] theorem V2_list {xs : List (List PV)} : V2 C (.list xs) V T L e s q = G C V T L e s q:=rfl
@[simp] theorem V2_nil : V2 C .nilsl V T L e s q = G C V T L e s q:=rfl
@[simp] theorem V0_nil {t z : Nat} : V0 C .nilsl t z V T L e s q = G C V T L ((t,.sl s.length 0 0) :: e) (s ++ [.rows z []]) q:=rfl
@[simp] theorem V0_sl {t z j off len : Nat} : V0 C (.sl j off len) t z V T L e s q = G C V T L e s q:=rfl
@[simp] theorem V0_list {t z : Nat} {xs : List (List PV)} : V0 C (.list xs) t z V T L e s q = G C V T L e s q:=rfl
@[simp] theorem V0_any {t z : Nat} : V0 C .any t z V T L e s q = G C V T L e s q:=rfl
@[simp] theorem V1_some {i z' j z : Nat} {row : List PV} : V1 C (some (i,z',row)) j z V T L e s q = G C V T L e (s.set i (.rows z' [row.set (j % 1000) (.sl s.length 0 0)]) ++ [.rows z []]) q:=rfl
@[simp] theorem V1_none {j z : Nat} : V1 C none j z V T L e s q = G C V T L e s q:=rfl
@[simp] theorem H_nil : H [] L e s q = q (liveE [] e L) []:=rfl
@[simp] theorem H_cons : H (i :: ρ) L e s q = q (liveE (i :: ρ) e L) (liveS (i :: ρ) s (i :: ρ)):=rfl
@[simp] theorem refsL_nil : refsL e [] = []:=rfl
@[simp] theorem refsL_cons : refsL e (i :: ρ) = refsN 4 (envOf e i) ++ refsL e ρ:=rfl
@[simp] theorem liveE_nil : liveE ρ e [] = []:=rfl
@[simp] theorem liveE_cons : liveE ρ e (i :: L) = (i,renN ρ 4 (envOf e i)) :: liveE ρ e L:=rfl
@[simp] theorem liveS_nil : liveS ρ s [] = []:=rfl
@[simp] theorem liveS_cons : liveS ρ s (i :: L) = renObj ρ ((s[i]?).getD .dead) :: liveS ρ s L:=rfl
@[simp] theorem O_pl_nil : O C .pl [] e s K = E C K .normal e s:=rfl
@[simp] theorem O_dr_nil : O C .dr [] e s K = E C K .normal e s:=rfl
theorem sat_assoc {α β : Type} {o : Option α} {g : α → Option β} {k : β → Prop} : Sat (o.bind g) k = Sat o fun a=>Sat (g a) k:=by cases o <;> rfl
@[simp] theorem O_pl_cons : O C .pl (⟨d,op,none⟩ :: r) e s K = O1 C d op r e s K:=by
 simp only [O,wops,O1,CL,SO,FO,LO,VO,PN,EO]
 unfold wop1
 split
 ·rfl
 ·rename_i args Ts
  dsimp only
  generalize args.toList = l1
  generalize Ts.toList = l2
  rcases l1 with _ | ⟨x,_ | ⟨_,_⟩⟩ <;> rcases l2 with _ | ⟨T,_ | ⟨_,_⟩⟩ <;> first | rfl | (dsimp only;rw [sat_assoc])
 ·rfl
 ·rfl
 ·rfl
 ·rfl
 ·rfl
 ·rename_i T x y z hne
  cases y with
  | const v=>cases v <;> first | rfl | exact (hne rfl).elim
  | _=>rfl
 ·split <;> first | rfl | (exfalso;simp_all;done) | (exfalso;solve_by_elim [rfl])
@[simp] theorem O_dr_cons : O C .dr (⟨d,op,none⟩ :: r) e s K = D1 C d op r e s K:=by
 simp only [O,dops,D1,CD,SO]
 unfold dop1
 split
 ·rfl
 ·split <;> first | rfl | (exfalso;simp_all;done)
theorem sat_pull {α : Type} {a b : Prop} {o : Option α} {A : α → Prop} : Sat o (fun p=>a ∧ b ∧ A p) = (a ∧ b ∧ Sat o A):=by
 cases o with
 | none=>simp [Sat]
 | some p=>rfl
def LA (C : WC) (lo : Option LOp) (ops : List LOp) (e : AE) (s : Store) (K : KS) : Prop:=lateA C.P lo ops e s (K.run C .normal)
@[simp] theorem LA_none : LA C none ops e s K = True:=rfl
@[simp] theorem LA_some {b : LOp} {dl : Tmp} {op' : Op} : LA C (some ⟨some dl,op',none⟩) (b :: r) e s K = O C .dr (b :: ⟨some dl,op',none⟩ :: r) (updA e (some dl) .any) s K:=rfl
@[simp] theorem LA_z {b : LOp} {dl : Tmp} {op' : Op} {b' : Bool} : LA C (some ⟨some dl,op',some (none,b')⟩) (b :: r) e s K = O C .dr (b :: ⟨some dl,op',none⟩ :: r) (updA e (some dl) .any) s K:=rfl
@[simp] theorem LA_mark : LA C (some markZ) ops e s K = True:=rfl
@[simp] theorem isZ_none : isZ none = false:=rfl
@[simp] theorem isZ_mark : isZ (some markZ) = true:=rfl
@[simp] theorem isZ_some {dl : Tmp} {op' : Op} : isZ (some ⟨some dl,op',none⟩) = false:=rfl
@[simp] theorem isZ_z {dl : Tmp} {op' : Op} {b : Bool} : isZ (some ⟨some dl,op',some (none,b)⟩) = true:=rfl
@[simp] theorem mark_d : markZ.d = none:=rfl
@[simp] theorem O_mx_nil {lo : Option LOp} : O C (.mx lo 0 f) ops e s K = (O C .dr ops e (s ++ f) K ∧ LA C lo ops e (s ++ f) K):=by
 simp only [O];rw [mops];rfl
@[simp] theorem O_mx_cons {n : Nat} {lo : Option LOp} : O C (.mx lo (n + 1) f) (⟨d,op,none⟩ :: r) e s K = M1 C lo n f d op r e s K:=by
 show mop1 C.P lo d op e s f (fun v f'=>mops C.P lo n r (updA e d v) s f' (K.run C .normal)) = _
 simp only [M1,CM,RO,MO,ZO,ZA]
 unfold mop1
 split
 ·rfl
 ·split
  ·rfl
  ·exact sat_pull
 ·split
  ·rename_i hz
   dsimp only
   rw [if_pos hz];rfl
  ·rename_i hz
   dsimp only
   rw [if_neg hz];exact sat_pull
 ·rename_i h hb ha
  split
  ·rename_i hr
   split
   ·exact (h _ _ _ rfl).elim
   ·exact (hb _ _ _ rfl).elim
   ·exact (ha _ _ rfl).elim
   ·rw [if_pos hr];rfl
  ·rename_i hr
   split
   ·exact (h _ _ _ rfl).elim
   ·exact (hb _ _ _ rfl).elim
   ·exact (ha _ _ rfl).elim
   ·rw [if_neg hr]
    cases xop C.P op (envOf e) s with
    | none=>simp only [Sat,and_false]
    | some p=>simp only [Sat,and_left_comm,and_assoc];rfl
@[simp] theorem late_none : lateNe none d = True:=rfl
@[simp] theorem late_some {l : LOp} : lateNe (some l) d = (d ≠ l.d):=rfl
@[simp] theorem O_guard {c : Nat} {b : Bool} : O C .pl (⟨d,op,some (some c,b)⟩ :: r) e s K = BO C .pl (envOf e c) b c d op r e s K:=rfl
@[simp] theorem O_guardD {c : Nat} {b : Bool} : O C .dr (⟨d,op,some (some c,b)⟩ :: r) e s K = BO C .dr (envOf e c) b c d op r e s K:=rfl
@[simp] theorem O_guardM {c n : Nat} {b : Bool} {lo : Option LOp} : O C (.mx lo (n + 1) f) (⟨d,op,some (some c,b)⟩ :: r) e s K = BO C (.mx lo (n + 1) f) (envOf e c) b c d op r e s K:=rfl
@[simp] theorem BO_skip {c : Nat} {b : Bool} : BO C md (.tuple []) b c d op r e s K = O C md.less r (updA e d (.tuple [])) s K:=rfl
@[simp] theorem BO_tt {c : Nat} : BO C md (.bool true) true c d op r e s K = O C md (⟨d,op,none⟩ :: r) ((c,.bool true) :: e) s K:=rfl
@[simp] theorem BO_ff {c : Nat} : BO C md (.bool false) false c d op r e s K = O C md (⟨d,op,none⟩ :: r) ((c,.bool false) :: e) s K:=rfl
@[simp] theorem BO_tf {c : Nat} : BO C md (.bool true) false c d op r e s K = O C md.less r (updA ((c,.bool true) :: e) d (.tuple [])) s K:=rfl
@[simp] theorem BO_ft {c : Nat} : BO C md (.bool false) true c d op r e s K = O C md.less r (updA ((c,.bool false) :: e) d (.tuple [])) s K:=rfl
theorem BO_t {c : Nat} {t : Bool} : BO C md (.bool t) true c d op r e s K = ((t = true → O C md (⟨d,op,none⟩ :: r) ((c,.bool true) :: e) s K) ∧ (t = false → O C md.less r (updA ((c,.bool false) :: e) d (.tuple [])) s K)):=by cases t <;> simp [BO,GdW,IfB,IfW]
theorem BO_f {c : Nat} {t : Bool} : BO C md (.bool t) false c d op r e s K = ((t = false → O C md (⟨d,op,none⟩ :: r) ((c,.bool false) :: e) s K) ∧ (t = true → O C md.less r (updA ((c,.bool true) :: e) d (.tuple [])) s K)):=by cases t <;> simp [BO,GdW,IfB,IfW]
@[simp] theorem less_pl : Md.less .pl = .pl:=rfl
@[simp] theorem less_dr : Md.less .dr = .dr:=rfl
@[simp] theorem less_mx {lo : Option LOp} {n : Nat} : Md.less (.mx lo (n + 1) f) = .mx lo n f:=rfl
section
variable {c : Prop} [Decidable c] {x y : Option (PV × Store)} {z : c → Option (PV × Store)} {lo : Option LOp} {n : Nat}
@[simp] theorem SO_some {s' : Store} : SO C md (some (v,s')) d r e K = O C md r (updA e d v) s' K:=rfl
@[simp] theorem SO_none : SO C md none d r e K = False:=rfl
@[simp low] theorem TO_ite {t : RT} : TO C (if c then x else none) d t e K = (c ∧ TO C x d t e K):=by by_cases h : c <;> simp [h]
@[simp low] theorem TO_dite {t : RT} : TO C (if h : c then z h else none) d t e K = ∃ h : c,TO C (z h) d t e K:=by by_cases h : c <;> simp [h]
@[simp high] theorem TO_known {t : RT} (h : c) : TO C (if c then x else y) d t e K = TO C x d t e K:=by rw [if_pos h]
@[simp high] theorem TO_dknown {t : RT} (h : c) : TO C (if h : c then z h else none) d t e K = TO C (z h) d t e K:=by rw [dif_pos h]
@[simp low] theorem TZ_ite {x : Option (List (List PV))} {t : RT} : TZ C (if c then x else none) d op t e s K = (c ∧ TZ C x d op t e s K):=by by_cases h : c <;> simp [h]
@[simp high] theorem TZ_known {x y : Option (List (List PV))} {t : RT} (h : c) : TZ C (if c then x else y) d op t e s K = TZ C x d op t e s K:=by rw [if_pos h]
@[simp low] theorem SO_ite : SO C md (if c then x else none) d r e K = (c ∧ SO C md x d r e K):=by by_cases h : c <;> simp [h]
@[simp low] theorem SO_dite : SO C md (if h : c then z h else none) d r e K = ∃ h : c,SO C md (z h) d r e K:=by by_cases h : c <;> simp [h]
@[simp] theorem RO_some {s' : Store} : RO C md (some (v,s')) d r e s K = O C md r (updA e d v) s K:=rfl
@[simp] theorem RO_none : RO C md none d r e s K = False:=rfl
@[simp low] theorem RO_ite : RO C md (if c then x else none) d r e s K = (c ∧ RO C md x d r e s K):=by by_cases h : c <;> simp [h]
@[simp low] theorem RO_dite : RO C md (if h : c then z h else none) d r e s K = ∃ h : c,RO C md (z h) d r e s K:=by by_cases h : c <;> simp [h]
@[simp] theorem ZO_some {rows : List (List PV)} : ZO C lo n f (some rows) d r e s K = ((∀ row ∈ rows,∀ c ∈ row,Closed c) ∧ O C (.mx lo n f) r (updA e d (.list rows)) s K):=rfl
@[simp] theorem ZA_some {rows : List (List PV)} : ZA C lo n f (some rows) d r e s K = O C (.mx lo n f) r (updA e d (.list rows)) s K:=rfl
@[simp] theorem ZA_none : ZA C lo n f none d r e s K = False:=rfl
@[simp low] theorem ZA_ite {x : Option (List (List PV))} : ZA C lo n f (if c then x else none) d r e s K = (c ∧ ZA C lo n f x d r e s K):=by by_cases h : c <;> simp [h]
@[simp high] theorem ZA_known {x y : Option (List (List PV))} (h : c) : ZA C lo n f (if c then x else y) d r e s K = ZA C lo n f x d r e s K:=by rw [if_pos h]
@[simp] theorem fzDst_two {x y : Operand} {E : Env} : fzDst #[x,y] E = isClip (evO E x):=rfl
@[simp] theorem xafz_two {P : Program} {x y : Operand} {T T2 : TypeId} {E : Env} : xafz P #[x,y] #[T,T2] E = (tinfo P T).bind fun ti=>(tinfo P T2).bind fun ti2=>if notInt ti2.kind = true then yafz ti (evO E x) (evO E y) else none:=rfl
@[simp] theorem yafz_sl {sz ag zo el esz by' ge z eq} {zz : Nat} {xs ys : List (List PV)} : yafz ⟨sz,ag,zo,.slice el esz by' ge (some z),eq⟩ (.clip zz xs) (.list ys) = if z.length = esz ∧ esz ≠ 0 ∧ by' ≠ 0 ∧ zz = esz ∧ ys ≠ [] ∧ (∀ row ∈ ys,row.length = esz) ∧ (xs.length + ys.length) * by' ≤ 140737488355328 then some (xs ++ ys) else none:=rfl
@[simp] theorem ZO_none : ZO C lo n f none d r e s K = False:=rfl
@[simp low] theorem ZO_ite {x : Option (List (List PV))} : ZO C lo n f (if c then x else none) d r e s K = (c ∧ ZO C lo n f x d r e s K):=by by_cases h : c <;> simp [h]
@[simp high] theorem ZO_known {x y : Option (List (List PV))} (h : c) : ZO C lo n f (if c then x else y) d r e s K = ZO C lo n f x d r e s K:=by rw [if_pos h]
@[simp] theorem xfz_eq {P : Program} {T : TypeId} {len : Nat} {parts : Array (Nat × Operand)} {e : Env} : xfz P T len parts e = (tinfo P T).bind fun ti=>yfz ti len (parts.toList.map fun p=>(p.1,evO e p.2)):=rfl
@[simp] theorem yfz_sl {sz ag zo el esz by' ge z eq} {n : Nat} {parts : List (Nat × PV)} : yfz ⟨sz,ag,zo,.slice el esz by' ge (some z),eq⟩ n parts = if z.length = esz ∧ n * esz ≤ 16777216 ∧ esz ≠ 0 then fillRows esz (List.replicate n z) parts else none:=rfl
@[simp] theorem MO_app {o : PObj} {t : Store} : MO C lo n (some (v,s ++ o :: t)) d r e s K = O C (.mx lo n (o :: t)) r (updA e d v) s K:=by simp [MO,Sat]
@[simp] theorem MO_nil {o : PObj} {t : Store} : MO C lo n (some (v,o :: t)) d r e [] K = O C (.mx lo n (o :: t)) r (updA e d v) [] K:=by simp [MO,Sat]
@[simp low] theorem MO_cons {o o' : PObj} {t t' : Store} : MO C lo n (some (v,o' :: t')) d r e (o :: t) K = (t.length < t'.length ∧ o' :: t' = o :: t ++ t'.drop t.length ∧ O C (.mx lo n (t'.drop t.length)) r (updA e d v) (o :: t) K):=by simp [MO,Sat]
@[simp] theorem MO_none : MO C lo n none d r e s K = False:=rfl
@[simp low] theorem MO_ite : MO C lo n (if c then x else none) d r e s K = (c ∧ MO C lo n x d r e s K):=by by_cases h : c <;> simp [h]
theorem LO_some : LO C (some n) d r e s K = (n ≤ maxLen → O C .pl r (updA e d (.int .i64 (n : Int))) s K):=rfl
@[simp] theorem LO_none : LO C none d r e s K = False:=rfl
theorem LO_known (h : n ≤ 9223372036854775807) : LO C (some n) d r e s K = O C .pl r (updA e d (.int .i64 (n : Int))) s K:=by
 apply propext;exact ⟨fun g=>g h,fun g _=>g⟩
attribute [simp] LO_known
@[simp high] theorem SO_known (h : c) : SO C md (if c then x else y) d r e K = SO C md x d r e K:=by rw [if_pos h]
@[simp] theorem SO_not (h : ¬ c) : SO C md (if c then x else y) d r e K = SO C md y d r e K:=by rw [if_neg h]
@[simp high] theorem RO_known (h : c) : RO C md (if c then x else y) d r e s K = RO C md x d r e s K:=by rw [if_pos h]
@[simp high] theorem MO_known (h : c) : MO C lo n (if c then x else y) d r e s K = MO C lo n x d r e s K:=by rw [if_pos h]
@[simp high] theorem SO_dknown (h : c) : SO C md (if h : c then z h else none) d r e K = SO C md (z h) d r e K:=by rw [dif_pos h]
@[simp high] theorem RO_dknown (h : c) : RO C md (if h : c then z h else none) d r e s K = RO C md (z h) d r e s K:=by rw [dif_pos h]
@[simp] theorem BX_known {t : Operand} {a b : XC} (h : c) : BX C (.bool (decide c)) t a b e s K = X C a (condE e t true) s K:=by rw [decide_eq_true h];rfl
@[simp] theorem BX_knownf {t : Operand} {a b : XC} (h : ¬ c) : BX C (.bool (decide c)) t a b e s K = X C b (condE e t false) s K:=by rw [decide_eq_false h];rfl
@[simp] theorem BX_nknown {t : Operand} {a b : XC} (h : ¬ c) : BX C (.bool (!decide c)) t a b e s K = X C a (condE e t true) s K:=by rw [decide_eq_false h];rfl
@[simp] theorem BX_nknownf {t : Operand} {a b : XC} (h : c) : BX C (.bool (!decide c)) t a b e s K = X C b (condE e t false) s K:=by rw [decide_eq_true h];rfl
@[simp] theorem BO_tk {k : Nat} (h : c) : BO C md (.bool (decide c)) true k d op r e s K = O C md (⟨d,op,none⟩ :: r) ((k,.bool true) :: e) s K:=by rw [decide_eq_true h,BO_tt]
@[simp] theorem BO_tkn {k : Nat} (h : ¬ c) : BO C md (.bool (decide c)) true k d op r e s K = O C md.less r (updA ((k,.bool false) :: e) d (.tuple [])) s K:=by rw [decide_eq_false h,BO_ft]
@[simp] theorem BO_fk {k : Nat} (h : c) : BO C md (.bool (decide c)) false k d op r e s K = O C md.less r (updA ((k,.bool true) :: e) d (.tuple [])) s K:=by rw [decide_eq_true h,BO_tf]
@[simp] theorem BO_fkn {k : Nat} (h : ¬ c) : BO C md (.bool (decide c)) false k d op r e s K = O C md (⟨d,op,none⟩ :: r) ((k,.bool false) :: e) s K:=by rw [decide_eq_false h,BO_ff]
theorem LO_in (h : n ≤ 9223372036854775807 → O C .pl r (updA e d (.int .i64 (n : Int))) s K) : LO C (some n) d r e s K:=h
theorem BX_dec {t : Operand} {a b : XC} (h1 : c → X C a (condE e t true) s K) (h2 : ¬ c → X C b (condE e t false) s K) : BX C (.bool (decide c)) t a b e s K:=by
 rw [BX_bool];simpa using ⟨h1,h2⟩
theorem BX_ndec {t : Operand} {a b : XC} (h1 : ¬ c → X C a (condE e t true) s K) (h2 : c → X C b (condE e t false) s K) : BX C (.bool (!decide c)) t a b e s K:=by
 rw [BX_bool];simpa using ⟨h1,h2⟩
theorem BX_any {t : Operand} {a b : XC} {u : Bool} (h1 : u = true → X C a (condE e t true) s K) (h2 : u = false → X C b (condE e t false) s K) : BX C (.bool u) t a b e s K:=by
 rw [BX_bool];exact ⟨h1,h2⟩
theorem BO_dect {k : Nat} (h1 : c → O C md (⟨d,op,none⟩ :: r) ((k,.bool true) :: e) s K) (h2 : ¬ c → O C md.less r (updA ((k,.bool false) :: e) d (.tuple [])) s K) : BO C md (.bool (decide c)) true k d op r e s K:=by
 rw [BO_t];simpa using ⟨h1,h2⟩
theorem BO_decf {k : Nat} (h1 : ¬ c → O C md (⟨d,op,none⟩ :: r) ((k,.bool false) :: e) s K) (h2 : c → O C md.less r (updA ((k,.bool true) :: e) d (.tuple [])) s K) : BO C md (.bool (decide c)) false k d op r e s K:=by
 rw [BO_f];simpa using ⟨h1,h2⟩
theorem BO_anyt {k : Nat} {u : Bool} (h1 : u = true → O C md (⟨d,op,none⟩ :: r) ((k,.bool true) :: e) s K) (h2 : u = false → O C md.less r (updA ((k,.bool false) :: e) d (.tuple [])) s K) : BO C md (.bool u) true k d op r e s K:=by
 rw [BO_t];exact ⟨h1,h2⟩
theorem BO_anyf {k : Nat} {u : Bool} (h1 : u = false → O C md (⟨d,op,none⟩ :: r) ((k,.bool false) :: e) s K) (h2 : u = true → O C md.less r (updA ((k,.bool true) :: e) d (.tuple [])) s K) : BO C md (.bool u) false k d op r e s K:=by
 rw [BO_f];exact ⟨h1,h2⟩
class Spl (p : Prop) (q : outParam Prop) : Prop where
 h : q → p
theorem spl {p q : Prop} [hs : Spl p q] (h : q) : p:=hs.h h
instance : Spl (LO C (some n) d r e s K) ((n ≤ 9223372036854775807 → O C .pl r (updA e d (.int .i64 (n : Int))) s K) ∧ (True → True)):=⟨fun h=>LO_in h.1⟩
instance {t : Operand} {a b : XC} : Spl (BX C (.bool (decide c)) t a b e s K) ((c → X C a (condE e t true) s K) ∧ (¬ c → X C b (condE e t false) s K)):=⟨fun h=>BX_dec h.1 h.2⟩
instance {t : Operand} {a b : XC} : Spl (BX C (.bool (!decide c)) t a b e s K) ((¬ c → X C a (condE e t true) s K) ∧ (c → X C b (condE e t false) s K)):=⟨fun h=>BX_ndec h.1 h.2⟩
instance (priority:=low) {t : Operand} {a b : XC} {u : Bool} : Spl (BX C (.bool u) t a b e s K) ((u = true → X C a (condE e t true) s K) ∧ (u = false → X C b (condE e t false) s K)):=⟨fun h=>BX_any h.1 h.2⟩
instance {k : Nat} : Spl (BO C md (.bool (decide c)) true k d op r e s K) ((c → O C md (⟨d,op,none⟩ :: r) ((k,.bool true) :: e) s K) ∧ (¬ c → O C md.less r (updA ((k,.bool false) :: e) d (.tuple [])) s K)):=⟨fun h=>BO_dect h.1 h.2⟩
instance {k : Nat} : Spl (BO C md (.bool (decide c)) false k d op r e s K) ((¬ c → O C md (⟨d,op,none⟩ :: r) ((k,.bool false) :: e) s K) ∧ (c → O C md.less r (updA ((k,.bool true) :: e) d (.tuple [])) s K)):=⟨fun h=>BO_decf h.1 h.2⟩
instance (priority:=low) {k : Nat} {u : Bool} : Spl (BO C md (.bool u) true k d op r e s K) ((u = true → O C md (⟨d,op,none⟩ :: r) ((k,.bool true) :: e) s K) ∧ (u = false → O C md.less r (updA ((k,.bool false) :: e) d (.tuple [])) s K)):=⟨fun h=>BO_anyt h.1 h.2⟩
instance (priority:=low) {k : Nat} {u : Bool} : Spl (BO C md (.bool u) false k d op r e s K) ((u = false → O C md (⟨d,op,none⟩ :: r) ((k,.bool false) :: e) s K) ∧ (u = true → O C md.less r (updA ((k,.bool true) :: e) d (.tuple [])) s K)):=⟨fun h=>BO_anyf h.1 h.2⟩
theorem lens : (∀ {α β : Type} {f : α → β} {l : List α},(l.map f).length = l.length) ∧ (∀ {α : Type} {l : List α},l.reverse.length = l.length) ∧ (∀ {α : Type} {l l2 : List α},(l ++ l2).length = l.length + l2.length) ∧ (∀ {α : Type} {a : α} {l : List α},(a :: l).length = l.length + 1) ∧
  (∀ {α : Type},([] : List α).length = 0) ∧ (∀ {α : Type} {i : Nat} {l : List α},(l.take i).length = min i l.length) ∧ (∀ {α : Type} {i : Nat} {l : List α},(l.drop i).length = l.length - i) ∧ (∀ {α : Type} {i : Nat} {a : α},(List.replicate i a).length = i) ∧ (∀ {α : Type} {i : Nat} {a : α} {l : List α},(l.set i a).length = l.length):=
 ⟨List.length_map _,List.length_reverse,List.length_append,List.length_cons,List.length_nil,List.length_take,List.length_drop,List.length_replicate,List.length_set⟩
end
@[simp] theorem FO_nil {T : TypeId} {len : Nat} {parts : Array (Nat × Operand)} : FO C [] T len parts d r e s K = SO C .pl (xop C.P (.buildSlice T len parts) (envOf e) s) d r e K:=rfl
@[simp] theorem FO_cons {i : Nat} {F : List Nat} {T : TypeId} {len : Nat} {parts : Array (Nat × Operand)} : FO C (i :: F) T len parts d r e s K =
 SO C .pl (xop C.P (.buildSlice T len parts) (envOf (withFrz (i :: F) e s).1) (withFrz (i :: F) e s).2) d r (withFrz (i :: F) e s).1 K:=rfl
attribute [simp] O1 D1 M1
end
section opt
variable {α β : Type} {c : Prop} [Decidable c]
@[simp] theorem bind_ite_none {x y : Option α} {f : α → Option β} : (if c then x else y).bind f = if c then x.bind f else y.bind f:=by by_cases h : c <;> simp [h]
@[simp] theorem bind_dite_none {x : c → Option α} {f : α → Option β} : (if h : c then x h else none).bind f = if h : c then (x h).bind f else none:=by by_cases h : c <;> simp [h]
@[simp] theorem map_ite_none {x y : Option α} {f : α → β} : (if c then x else y).map f = if c then x.map f else y.map f:=by by_cases h : c <;> simp [h]
@[simp] theorem map_dite_none {x : c → Option α} {f : α → β} : (if h : c then x h else none).map f = if h : c then (x h).map f else none:=by by_cases h : c <;> simp [h]
@[simp] theorem bits64 : IntKind.i64.bits = 64:=rfl
@[simp] theorem bitsu64 : IntKind.u64.bits = 64:=rfl
@[simp] theorem bits8 : IntKind.u8.bits = 8:=rfl
@[simp] theorem bits32 : IntKind.i32.bits = 32:=rfl
@[simp] theorem withRow_eq {rows : List (List PV)} {r : Nat} {f : List PV → Option α} : withRow rows r f = if h : r < rows.length then f rows[r] else none:=rfl
attribute [simp] List.getElem?_cons_zero List.getElem?_cons_succ List.getElem_cons_zero List.getElem_cons_succ List.getElem?_nil List.set_cons_zero List.set_cons_succ List.getElem_append_left List.getElem_append_right List.getElem?_append_left List.getElem?_append_right List.take_take Nat.min_self
end opt
end Go.Pv
