import Derived.Test.YtlcplnafkeklaaaCMoF
import Derived.Test.YtlcplnafkeklaaaCMoE
import Derived.Test.YtlcplnafkeklaaaCMnU
import Derived.Test.YtlcplnafkeklaaaCPvData
import Derived.DataReads
import Derived.ChangeShapes
set_option linter.unusedVariables false
set_option linter.unusedSimpArgs false
set_option maxRecDepth 100000
set_option maxHeartbeats 4000000
namespace Go.Proofs.Ytlcplnafkeklaaa
open Go Go.Pv
def x5_T1 : XC:=.seq (.drawn 13 [⟨some 64,.load 25 (.tmp 5),none⟩,⟨some 65,.move (.tmp 4),none⟩,⟨some 66,.call ⟨.value (.func 19),#[.tmp 64,.tmp 65],#[25,3]⟩,none⟩,⟨some 67,.load 29 (.tmp 6),none⟩,⟨some 68,.move (.tmp 2),none⟩,⟨some 69,.move (.tmp 13),none⟩,⟨some 70,.call ⟨.value (.func 10),#[.tmp 66,.tmp 67,.tmp 68,.tmp 69],#[25,29,30,31]⟩,none⟩,⟨some 63,.move (.tmp 70),none⟩,⟨some 71,.extract (.tmp 63) 0,none⟩,⟨some 72,.extract (.tmp 63) 1,none⟩,⟨some 15,.assign (.tmp 71),none⟩,⟨none,.store 36 (.tmp 12) (.tmp 72),none⟩]) (.seq (.reg [⟨some 73,.fieldAddr 36 (.tmp 12) 0,none⟩,⟨some 74,.load 3 (.tmp 73),none⟩,⟨some 75,.binOp .eql 3 (.tmp 74) (.const (.int .i64 0)) 3,none⟩,⟨some 76,.move (.tmp 75),none⟩,⟨some 77,.move (.tmp 11),some (some 76,true)⟩,⟨some 78,.move (.tmp 15),some (some 76,true)⟩,⟨some 79,.binOp .eql 4 (.tmp 77) (.tmp 78) 4,some (some 76,true)⟩,⟨some 80,.pick (.tmp 76) (.tmp 79) (.const (.bool false)),none⟩,⟨some 10,.assign (.tmp 80),none⟩]) .ret)
def x5_L0 : XC:=.seq (.seq (.reg [⟨some 45,.move (.tmp 14),none⟩,⟨some 46,.move (.tmp 3),none⟩,⟨some 47,.call ⟨.builtin .len,#[.tmp 46],#[31]⟩,none⟩,⟨some 48,.binOp .lss 3 (.tmp 45) (.tmp 47) 3,none⟩]) (.cond (.tmp 48) .skip (.exit 0))) (.seq (.block 1 (.drawn 12 [⟨some 51,.move (.tmp 13),none⟩,⟨some 52,.move (.tmp 3),none⟩,⟨some 53,.move (.tmp 14),none⟩,⟨some 54,.indexAddr 31 (.tmp 52) (.tmp 53),none⟩,⟨some 55,.load 3 (.tmp 54),none⟩,⟨some 56,.move (.tmp 4),none⟩,⟨some 57,.binOp .add 3 (.tmp 55) (.tmp 56) 3,none⟩,⟨some 58,.fieldAddr 25 (.tmp 5) 0,none⟩,⟨some 59,.load 3 (.tmp 58),none⟩,⟨some 60,.binOp .rem 3 (.tmp 57) (.tmp 59) 3,none⟩,⟨some 61,.buildSlice 31 1 #[(0,.tmp 60)],none⟩,⟨some 62,.call ⟨.builtin .append,#[.tmp 51,.tmp 61],#[31,31]⟩,none⟩,⟨some 13,.assign (.tmp 62),none⟩])) (.reg [⟨some 49,.move (.tmp 14),none⟩,⟨some 50,.binOp .add 3 (.tmp 49) (.const (.int .i64 1)) 3,none⟩,⟨some 14,.assign (.tmp 50),none⟩]))
def x5 : XC:=.seq (.reg [⟨some 5,.box 25 (.tmp 0),none⟩,⟨some 6,.box 29 (.tmp 1),none⟩,⟨some 10,.assign (.const (.bool false)),none⟩]) (.seq (.seq (.reg [⟨some 16,.call ⟨.value (.func 6),#[],#[]⟩,none⟩,⟨some 17,.unOp .not 4 (.tmp 16),none⟩]) (.cond (.tmp 17) (.seq (.reg [⟨some 10,.assign (.const (.bool false)),none⟩]) .ret) .skip)) (.seq (.seq (.reg [⟨some 18,.load 29 (.tmp 6),none⟩,⟨some 19,.call ⟨.value (.func 7),#[.tmp 18,.const (.int .i64 0)],#[29,3]⟩,none⟩,⟨some 20,.move (.tmp 19),none⟩,⟨some 21,.load 25 (.tmp 5),some (some 20,false)⟩,⟨some 22,.call ⟨.value (.func 13),#[.tmp 21],#[25]⟩,some (some 20,false)⟩,⟨some 23,.field 36 (.tmp 22) 0,some (some 20,false)⟩,⟨some 24,.binOp .neq 3 (.tmp 23) (.const (.int .i64 0)) 3,some (some 20,false)⟩,⟨some 25,.pick (.tmp 20) (.const (.bool true)) (.tmp 24),none⟩,⟨some 26,.move (.tmp 25),none⟩,⟨some 27,.move (.tmp 4),some (some 26,false)⟩,⟨some 28,.binOp .lss 3 (.tmp 27) (.const (.int .i64 0)) 3,some (some 26,false)⟩,⟨some 29,.pick (.tmp 26) (.const (.bool true)) (.tmp 28),none⟩,⟨some 30,.move (.tmp 29),none⟩,⟨some 31,.move (.tmp 4),some (some 30,false)⟩,⟨some 32,.binOp .gtr 3 (.tmp 31) (.const (.int .i64 100)) 3,some (some 30,false)⟩,⟨some 33,.pick (.tmp 30) (.const (.bool true)) (.tmp 32),none⟩]) (.cond (.tmp 33) (.seq (.reg [⟨some 10,.assign (.const (.bool true)),none⟩]) .ret) .skip)) (.seq (.reg [⟨some 35,.load 25 (.tmp 5),none⟩,⟨some 36,.load 29 (.tmp 6),none⟩,⟨some 37,.move (.tmp 2),none⟩,⟨some 38,.move (.tmp 3),none⟩,⟨some 39,.call ⟨.value (.func 10),#[.tmp 35,.tmp 36,.tmp 37,.tmp 38],#[25,29,30,31]⟩,none⟩,⟨some 34,.move (.tmp 39),none⟩,⟨some 40,.extract (.tmp 34) 0,none⟩,⟨some 41,.extract (.tmp 34) 1,none⟩,⟨some 12,.alloc 36,none⟩,⟨some 11,.assign (.tmp 40),none⟩,⟨none,.store 36 (.tmp 12) (.tmp 41),none⟩]) (.seq (.seq (.reg [⟨some 42,.fieldAddr 36 (.tmp 12) 0,none⟩,⟨some 43,.load 3 (.tmp 42),none⟩,⟨some 44,.binOp .neq 3 (.tmp 43) (.const (.int .i64 0)) 3,none⟩]) (.cond (.tmp 44) (.seq (.reg [⟨some 10,.assign (.const (.bool true)),none⟩]) .ret) .skip)) (.seq (.reg [⟨some 13,.assign (.const (.slice none 0 0)),none⟩]) (.seq (.seq (.reg [⟨some 14,.assign (.const (.int .i64 0)),none⟩]) (.bloop 0 x5_L0)) (x5_T1)))))))
@[simp] theorem x5_s {C e s K} : type_of% (@X_at C e s K _ _ x5_T1.eq_1) ∧ type_of% (@X_at C e s K _ _ x5_L0.eq_1) ∧ type_of% (@X_at C e s K _ _ x5.eq_1):=⟨X_at x5_T1.eq_1,X_at x5_L0.eq_1,X_at x5.eq_1⟩
def an5 : Ann:=⟨[(12,.mix 11),(13,.mix 11)],[(0,[(13,none,1)],[2,3,4,5,6,11,12,13,14],[2,4,5,6,11,12,13])],[]⟩
@[simp] theorem an5_a : an5.clsOf 12 = .mix 11 ∧ an5.clsOf 13 = .mix 11 ∧ an5.frzOf 12 = [] ∧ an5.frzOf 13 = [] ∧ an5.loopOf 0 = ([(13,none,1)],[2,3,4,5,6,11,12,13,14],[2,4,5,6,11,12,13]):=⟨rfl,rfl,rfl,rfl,rfl⟩
theorem fi5 : FI Try.prog 5 (cxA an5) x5 [.tmp 10] Try.f5:=fiA Try.func5 mixed
theorem meaningNumbers_law (S : Stc) (e : Ex) (ns : List ByteArray) (vs : List Int) (b : Int) : CallOK Try.prog 5 [.agg (stc S),.agg (exr e),.list (ns.map strRow),.list (vs.map intRow),.int .i64 b] [] (.bool true) []:=by
 have c0:=meaningBegun_law
 have c1:=VastExpr_ref e 0 (by decide)
 have k2:=StructureFault_ref S
 have v1:=Value_meaning S e ns vs
 have key:=numbers (b:=b) (S:=S) (e:=e) (ns:=ns) (vs:=vs)
 have hst:=stcF_zero (S:=S)
 have hvz:=valF_zero (S:=S) (e:=e) (ns:=ns) (vs:=vs)
 have v2:=Value_meaning (renS b S) e ns (vs.map (piV S.n b))
 have hrn:=renumbered_gen S.n b
 obtain ⟨n,F,P⟩:=S
 unfold renS at v2 key
 unfold stc at *
 dsimp only at *
 refine fi5.op ?_
 cases hv : vxF e 0 with
 | true=>
  rw [hv] at c1
  (refine Sg.h ?_;try repeat' ((first|(with_reducible first|refine brA ?_|refine brE fun _=>?_|refine spl ⟨?_,?_⟩<;>intro _)|refine clo c0 ?_|refine clo c1 ?_)<;>((try simp -implicitDefEqProofs);(try simp -implicitDefEqProofs(disch:=first|assumption|(try simp only[lens]);omega -splitDisjunctions)))))
 | false=>
 rw [hv] at c1
 by_cases z1 : (stcF ⟨n,F,P⟩).1 = 0
 rotate_left
 ·generalize stcF ⟨n,F,P⟩ = q at *
  (refine Sg.h ?_;try repeat' ((first|(with_reducible first|refine brA ?_|refine brE fun _=>?_|refine spl ⟨?_,?_⟩<;>intro _)|refine clo c0 ?_|refine clo c1 ?_|refine clo k2 ?_)<;>((try simp -implicitDefEqProofs [z1]);(try simp -implicitDefEqProofs(disch:=first|assumption|(try simp only[lens]);omega -splitDisjunctions) [z1]))))
 obtain ⟨s0,s8,sF,sP,snF,snP,sOF,sOP,sz⟩:=hst z1
 rw [sz] at k2
 by_cases b0 : b < 0
 ·(refine Sg.h ?_;try repeat' ((first|(with_reducible first|refine brA ?_|refine brE fun _=>?_|refine spl ⟨?_,?_⟩<;>intro _)|refine clo c0 ?_|refine clo c1 ?_|refine clo k2 ?_)<;>((try simp -implicitDefEqProofs [b0]);(try simp -implicitDefEqProofs(disch:=first|assumption|(try simp only[lens]);omega -splitDisjunctions) [b0]))))
 by_cases b1 : 100 < b
 ·(refine Sg.h ?_;try repeat' ((first|(with_reducible first|refine brA ?_|refine brE fun _=>?_|refine spl ⟨?_,?_⟩<;>intro _)|refine clo c0 ?_|refine clo c1 ?_|refine clo k2 ?_)<;>((try simp -implicitDefEqProofs [b0,b1]);(try simp -implicitDefEqProofs(disch:=first|assumption|(try simp only[lens]);omega -splitDisjunctions) [b0,b1]))))
 by_cases hz : (valF ⟨n,F,P⟩ e ns vs).1 = 0
 rotate_left
 ·generalize valF ⟨n,F,P⟩ e ns vs = q at *
  generalize valB ⟨n,F,P⟩ e ns vs = r at *
  (refine Sg.h ?_;try repeat' ((first|(with_reducible first|refine brA ?_|refine brE fun _=>?_|refine spl ⟨?_,?_⟩<;>intro _)|refine clo c0 ?_|refine clo c1 ?_|refine clo k2 ?_|refine clo v1 ?_)<;>((try simp -implicitDefEqProofs [b0,b1,hz]);(try simp -implicitDefEqProofs(disch:=first|assumption|(try simp only[lens]);omega -splitDisjunctions) [b0,b1,hz]))))
 obtain ⟨w1,w2,w3,w4,w5,w6,w7,w8⟩:=hvz hz
 obtain ⟨k3,k4⟩:=key hz
 rw [w8] at v1
 rw [k3,k4] at v2
 have hrg:=namF_zero w3 w5
 have hrn:=hrn s0 s8 (by omega) (by omega) F sOF sF P sOP sP (F.map (renFn n b)) rfl (P.map (renPd n b)) rfl
 clear key hst hvz w1 w2 w5 w6 w7 w8 k3 k4 hz
 generalize valB ⟨n,F,P⟩ e ns vs = r at *
 generalize F.map (renFn n b) = G at *
 generalize P.map (renPd n b) = M at *
 (refine Sg.h ?_;try repeat' ((first|(with_reducible first|refine brA ?_|refine brE fun _=>?_|refine spl ⟨?_,?_⟩<;>intro _)|refine clo c0 ?_|refine clo c1 ?_|refine clo k2 ?_|refine clo v1 ?_)<;>((try simp -implicitDefEqProofs [b0,b1]);(try simp -implicitDefEqProofs(disch:=first|assumption|(try simp only[lens]);omega -splitDisjunctions) [b0,b1]))))
 refine W_of fun Q hQ=>?_
 generalize hW : vs.map (piV n b) = W at *
 have hWl : W.length = vs.length:=by rw [← hW,List.length_map]
 have main : ∀ k i,i + k = vs.length → Q [(2,.list (ns.map strRow)),(3,.list (vs.map intRow)),(4,.int .i64 b),(5,.ptr 0 0 0),(6,.ptr 1 0 0),(11,.bool r),(12,.ptr 2 0 0),(13,.sl 3 0 (W.take i).length),(14,.int .i64 (i : Int))] [.rows 3 [[.int .i64 n,.list (F.map fnRow),.list (P.map pdRow)]],.rows 4 [exr e],.rows 2 [[.int .i64 0,.int .i64 0]],.rows 1 ((W.take i).map intRow)]:=by
  intro k
  induction k with
  | zero=>
   intro i hi
   rw [List.take_of_length_le (by omega)]
   have hi' : ¬ (i : Int) < (vs.length : Int):=by omega
   apply hQ
   clear hQ
   (refine Sg.h ?_;try repeat' ((first|(with_reducible first|refine brA ?_|refine brE fun _=>?_|refine spl ⟨?_,?_⟩<;>intro _)|refine clo hrn ?_|refine clo v2 ?_)<;>((try simp -implicitDefEqProofs [hi',hWl]);(try simp -implicitDefEqProofs(disch:=first|assumption|(try simp only[lens]);omega -splitDisjunctions) [hi',hWl]))))
   have htk : List.take vs.length (W.map intRow) = W.map intRow:=List.take_of_length_le (by rw [List.length_map,hWl];exact Nat.le_refl _)
   refine CM.see v2 (fun t=>by simp [htk,hWl]) (flat_tuple fun v hv=>?_) ?_
   ·simp only [List.mem_cons,List.not_mem_nil,or_false] at hv
    rcases hv with rfl | rfl
    ·exact flat_bool _
    ·exact flat_agg fun v hv => by
      simp only [List.mem_cons,List.not_mem_nil,or_false] at hv
      rcases hv with rfl | rfl <;> exact flat_int _ _
   (refine Sg.h ?_;try repeat' ((with_reducible first|refine brA ?_|refine brE fun _=>?_|refine spl ⟨?_,?_⟩<;>intro _)<;>((try simp -implicitDefEqProofs);(try simp -implicitDefEqProofs(disch:=first|assumption|(try simp only[lens]);omega -splitDisjunctions)))))
  | succ k ih=>
   intro i hi
   have hil : i < vs.length:=by omega
   have hilW : i < W.length:=by omega
   have hWi : W[i] = piV n b vs[i]:=by subst hW;rw [List.getElem_map]
   have ih:=ih (i + 1) (by omega)
   rw [take_snocV hilW,List.map_append,List.map_singleton,hWi] at ih
   have hlt : (W.take i).length ≤ 20:=by rw [List.length_take];omega
   have hyr:=hrg _ (List.getElem_mem hil)
   have hi' : (i : Int) < (vs.length : Int):=by omega
   clear hWi hW
   generalize W.take i = T at *
   generalize hx : vs[i] = y at *
   have hrem : (y + b).tmod n = piV n b y:=Int.tmod_eq_emod_of_nonneg (by omega)
   have hn0 : ¬ n = 0:=by omega
   generalize piV n b y = z at *
   apply hQ
   clear hQ
   (refine Sg.h ?_;try repeat' ((with_reducible first|refine brA ?_|refine brE fun _=>?_|refine spl ⟨?_,?_⟩<;>intro _)<;>((try simp -implicitDefEqProofs [hi',hil,hx,hrem,hn0]);(try simp -implicitDefEqProofs(disch:=first|assumption|(try simp only[lens]);omega -splitDisjunctions) [hi',hil,hx,hrem,hn0]))))
   all_goals first|exact ih|(refine at2 ih ?_ ?_<;>simp;done)|(exfalso;first|omega|(simp_all;done)|(simp_all;omega))
 all_goals first|exact main vs.length 0 (Nat.zero_add _)|(refine at2 main vs.length 0 (Nat.zero_add _) ?_ ?_<;>simp;done)|(exfalso;first|omega|(simp_all;done)|(simp_all;omega))
end Go.Proofs.Ytlcplnafkeklaaa
namespace Go.Pv
open Go
inductive HasTy (P : Program) : TypeId → List PV → Prop where
 | bool {t b} (h : P.underlying t = some .bool) : HasTy P t [.bool b]
 | int {t k n} (h : P.underlying t = some (.int k)) (wf : (Lit.int k n).wf = true) : HasTy P t [.int k n]
 | str {t s} (h : P.underlying t = some .string) (hs : s.size ≤ maxLen) (hb : s.size ≤ reachBytes) : HasTy P t [.str s]
 | slice {t e rows} (h : P.underlying t = some (.slice e)) (hr : ∀ row ∈ rows,HasTy P e row) (hb : rows.length * P.bytesOf e ≤ reachBytes) : HasTy P t [.list rows]
 | struct {t} {fs : Array Field} {parts : List (List PV)} (h : P.underlying t = some (.struct fs)) (hl : parts.length = fs.size)
   (hp : ∀ (i : Nat) (f : Field) (row : List PV),fs[i]? = some f → parts[i]? = some row → HasTy P f.type row) : HasTy P t parts.flatten
 | array {t n e} {parts : List (List PV)} (h : P.underlying t = some (.array n e)) (hl : parts.length = n) (hp : ∀ row ∈ parts,HasTy P e row) : HasTy P t parts.flatten
def RowRel (pub : PHeap) (row : List PV) (cs : List Value) : Prop:=row.length = cs.length ∧ ∀ (j : Nat) (v : PV) (c : Value),row[j]? = some v → cs[j]? = some c → Rel pub noSig v c
theorem RowRel.nil {pub : PHeap} : RowRel pub [] []:=⟨rfl,fun j v c h=>by simp at h⟩
theorem RowRel.one {pub : PHeap} {v : PV} {c : Value} (h : Rel pub noSig v c) : RowRel pub [v] [c]:=⟨rfl,fun j x y hx hy=>by
 cases j with
 | zero=>simp at hx hy;subst hx hy;exact h
 | succ j=>simp at hx⟩
theorem RowRel.append {pub : PHeap} {r r' : List PV} {cs cs' : List Value} (h : RowRel pub r cs) (g : RowRel pub r' cs') : RowRel pub (r ++ r') (cs ++ cs'):=by
 refine ⟨by simp [h.1,g.1],fun j v c hv hc=>?_⟩
 rw [List.getElem?_append] at hv hc
 split at hv
 ·rename_i hlt;rw [if_pos (by rw [← h.1];exact hlt)] at hc;exact h.2 j v c hv hc
 ·rename_i hge;rw [if_neg (by rw [← h.1];exact hge),← h.1] at hc;exact g.2 _ v c hv hc
def contig (P : Program) (total : Nat) : List Field → Nat → Bool
 | [],o=>o == total
 | f :: r,o=>f.offset == o && contig P total r (o + P.cellsOf f.type)
def tyOK (P : Program) (S : List TypeId) (t : TypeId) : Bool:=match P.underlying t with
 | some .bool | some (.int _) | some .string=>true
 | some (.slice e)=>S.contains e && decide (0 < P.cellsOf e)
 | some (.struct fs)=>contig P (P.cellsOf t) fs.toList 0 && fs.toList.all fun f=>S.contains f.type
 | some (.array n e)=>S.contains e && n * P.cellsOf e == P.cellsOf t
 | _=>false
theorem rows_of {α : Type} (p : Nat → α → Prop) : ∀ n,(∀ i,i < n → ∃ x,p i x) → ∃ l : List α,l.length = n ∧ ∀ i x,l[i]? = some x → p i x:=by
 intro n
 induction n with
 | zero=>intro _;exact ⟨[],rfl,fun i x h=>by simp at h⟩
 | succ n ih=>
  intro h
  obtain ⟨l,hl,hp⟩:=ih fun i hi=>h i (by omega)
  obtain ⟨x,hx⟩:=h n (by omega)
  refine ⟨l ++ [x],by simp [hl],fun i y hy=>?_⟩
  rw [List.getElem?_append] at hy
  split at hy
  ·exact hp i y hy
  ·rename_i hge
   have hi:=lt_of_getElem? hy
   simp only [List.length_cons,List.length_nil] at hi
   have hin : i = n:=by omega
   subst hin
   rw [show i - l.length = 0 by omega] at hy
   simp at hy;subst hy;exact hx
section
variable {H : Type} {enc : TypeId × Value → H} {P : Program} {S : List TypeId} {w : World} {spare : Nat → Bool} {held : Bool}
theorem fields_rel {fuel total : Nat} {cs : List Value} {pub : PHeap} (hcs : cs.length = total)
  (ih : ∀ (t : TypeId) (cs : List Value) (x : DataW H × List MemPlace),S.contains t = true → DataW.trod enc P w 0 spare held fuel t cs = some x → (∀ n ∈ DataW.weights P t x.1,n ≤ reachBytes) → ∃ row,HasTy P t row ∧ RowRel pub row cs) :
  ∀ (fs : List Field) (o : Nat) (xs : List (DataW H × List MemPlace)),contig P total fs o = true → (fs.all fun f=>S.contains f.type) = true →
   (fs.mapM fun f=>DataW.trod enc P w 0 spare held fuel f.type ((cs.drop f.offset).take (P.cellsOf f.type))) = some xs → (∀ n ∈ DataW.weightsEach P (fs.map (·.type)) (xs.map (·.1)),n ≤ reachBytes) →
   o ≤ total ∧ ∃ parts : List (List PV),parts.length = fs.length ∧ (∀ (i : Nat) (f : Field) (row : List PV),fs[i]? = some f → parts[i]? = some row → HasTy P f.type row) ∧ RowRel pub parts.flatten (cs.drop o):=by
 intro fs
 induction fs with
 | nil=>
  intro o xs hc _ _ _
  simp only [contig,beq_iff_eq] at hc
  refine ⟨by omega,[],rfl,fun i f row h=>by simp at h,?_⟩
  rw [List.drop_eq_nil_of_le (by omega)];exact .nil
 | cons f r ih2=>
  intro o xs hc ha hm hw
  simp only [contig,Bool.and_eq_true,beq_iff_eq] at hc
  simp only [List.all_cons,Bool.and_eq_true] at ha
  obtain ⟨ho,hc⟩:=hc
  rw [List.mapM_cons] at hm
  cases hx : DataW.trod enc P w 0 spare held fuel f.type ((cs.drop f.offset).take (P.cellsOf f.type)) with
  | none=>rw [hx] at hm;simp at hm
  | some x=>
   cases hxs : (r.mapM fun f=>DataW.trod enc P w 0 spare held fuel f.type ((cs.drop f.offset).take (P.cellsOf f.type))) with
   | none=>rw [hx,hxs] at hm;simp at hm
   | some ys=>
    rw [hx,hxs] at hm
    obtain rfl : x :: ys = xs:=by simpa using hm
    simp only [List.map_cons,DataW.weightsEach,List.mem_append] at hw
    obtain ⟨h1,parts,h2,h3,h4⟩:=ih2 _ ys hc ha.2 hxs fun n hn=>hw n (.inr hn)
    obtain ⟨row,g1,g2⟩:=ih _ _ _ ha.1 hx fun n hn=>hw n (.inl hn)
    refine ⟨by omega,row :: parts,by simp [h2],fun i f' row' hf hr=>?_,?_⟩
    ·cases i with
     | zero=>simp at hf hr;subst hf hr;exact g1
     | succ i=>exact h3 i f' row' (by simpa using hf) (by simpa using hr)
    ·rw [List.flatten_cons]
     have hsplit : cs.drop o = (cs.drop o).take (P.cellsOf f.type) ++ cs.drop (o + P.cellsOf f.type):=by
      rw [← List.drop_drop,List.take_append_drop]
     rw [hsplit,← ho]
     rw [← ho] at h4
     exact g2.append h4
theorem elems_rel {fuel : Nat} {cs : List Value} {pub : PHeap} {e : TypeId} (hin : S.contains e = true)
  (ih : ∀ (t : TypeId) (cs : List Value) (x : DataW H × List MemPlace),S.contains t = true → DataW.trod enc P w 0 spare held fuel t cs = some x → (∀ n ∈ DataW.weights P t x.1,n ≤ reachBytes) → ∃ row,HasTy P t row ∧ RowRel pub row cs) :
  ∀ (k i : Nat) (xs : List (DataW H × List MemPlace)),cs.length = (i + k) * P.cellsOf e →
   ((List.range' i k).mapM fun i=>DataW.trod enc P w 0 spare held fuel e ((cs.drop (i * P.cellsOf e)).take (P.cellsOf e))) = some xs → (∀ n ∈ DataW.weightsAll P e (xs.map (·.1)),n ≤ reachBytes) →
   ∃ parts : List (List PV),parts.length = k ∧ (∀ row ∈ parts,HasTy P e row) ∧ RowRel pub parts.flatten (cs.drop (i * P.cellsOf e)):=by
 intro k
 induction k with
 | zero=>
  intro i xs hc _ _
  refine ⟨[],rfl,by simp,?_⟩
  rw [List.drop_eq_nil_of_le (by rw [hc];exact Nat.le_refl _)];exact .nil
 | succ k ih2=>
  intro i xs hc hm hw
  rw [List.range'_succ,List.mapM_cons] at hm
  cases hx : DataW.trod enc P w 0 spare held fuel e ((cs.drop (i * P.cellsOf e)).take (P.cellsOf e)) with
  | none=>rw [hx] at hm;simp at hm
  | some x=>
   cases hxs : ((List.range' (i + 1) k).mapM fun i=>DataW.trod enc P w 0 spare held fuel e ((cs.drop (i * P.cellsOf e)).take (P.cellsOf e))) with
   | none=>rw [hx,hxs] at hm;simp at hm
   | some ys=>
    rw [hx,hxs] at hm
    obtain rfl : x :: ys = xs:=by simpa using hm
    simp only [List.map_cons,DataW.weightsAll,List.mem_append] at hw
    obtain ⟨parts,h2,h3,h4⟩:=ih2 (i + 1) ys (by rw [hc];congr 1;omega) hxs fun n hn=>hw n (.inr hn)
    obtain ⟨row,g1,g2⟩:=ih _ _ _ hin hx fun n hn=>hw n (.inl hn)
    refine ⟨row :: parts,by simp [h2],fun row' hr=>?_,?_⟩
    ·rcases List.mem_cons.1 hr with rfl | hr
     ·exact g1
     ·exact h3 _ hr
    ·rw [List.flatten_cons]
     have hsplit : cs.drop (i * P.cellsOf e) = (cs.drop (i * P.cellsOf e)).take (P.cellsOf e) ++ cs.drop ((i + 1) * P.cellsOf e):=by
      rw [Nat.add_mul,Nat.one_mul,← List.drop_drop,List.take_append_drop]
     rw [hsplit]
     exact g2.append h4
def heapOf (w : World) : PHeap:=fun b=>w.heap[b]?
theorem cell_block {w : World} {a : Addr} {c : Value} (h : w.cell? a = some c) : a.spot = none ∧ ∃ cs ty fr,w.heap[a.block]? = some (.cells cs ty fr) ∧ cs[a.off]? = some c:=by
 unfold World.cell? at h
 split at h
 ·rename_i cs ty fr hh
  split at h
  ·cases h
  ·rename_i hs;exact ⟨by simpa using hs,cs,ty,fr,hh,h⟩
 ·cases h
theorem weightsAll_mem {H : Type} {P : Program} {e : TypeId} : ∀ {l : List (DataW H)} {d : DataW H} {n : Nat},d ∈ l → n ∈ DataW.weights P e d → n ∈ DataW.weightsAll P e l
 | a :: r,d,n,h,hn=>by
  simp only [DataW.weightsAll,List.mem_append]
  rcases List.mem_cons.1 h with rfl | h
  ·exact .inl hn
  ·exact .inr (weightsAll_mem h hn)
theorem trod_rel (hS : ∀ t,S.contains t = true → tyOK P S t = true) : ∀ (fuel : Nat) (t : TypeId) (cs : List Value) (x : DataW H × List MemPlace),S.contains t = true →
  DataW.trod enc P w 0 spare held fuel t cs = some x → (∀ n ∈ DataW.weights P t x.1,n ≤ reachBytes) → ∃ row,HasTy P t row ∧ RowRel (heapOf w) row cs:=by
 intro fuel
 induction fuel with
 | zero=>intro t cs x _ h;simp [DataW.trod] at h
 | succ fuel ih=>
  intro t cs x hin h hw
  have hok:=hS t hin
  unfold tyOK at hok
  unfold DataW.trod at h
  split at hok
  ·rename_i hu
   rw [hu] at h
   split at h <;> first | (cases h;done) | skip
   all_goals first | (rename_i heq;cases heq;done) | skip
   exact ⟨_,.bool hu,.one .bool⟩
  ·rename_i k hu
   rw [hu] at h
   split at h <;> first | (cases h;done) | skip
   all_goals first | (rename_i heq;cases heq;done) | skip
   rename_i heq;cases heq
   split at h
   ·rename_i hk;obtain ⟨rfl,hwf⟩:=hk;exact ⟨_,.int hu hwf,.one .int⟩
   ·cases h
  ·rename_i hu
   rw [hu] at h
   split at h <;> first | (cases h;done) | skip
   all_goals first | (rename_i heq;cases heq;done) | skip
   split at h
   ·rename_i s hs
    cases h
    exact ⟨_,.str hu hs (by simpa [DataW.weights] using hw),.one (.str hs)⟩
   ·cases h
  ·rename_i e hu
   rw [hu] at h
   simp only [Bool.and_eq_true,decide_eq_true_eq] at hok
   split at h <;> first | (cases h;done) | skip
   all_goals first | (rename_i heq;cases heq;done) | skip
   ·exact ⟨[.list []],.slice hu (fun row hr=>by cases hr) (by simp),.one (.list0 (Nat.zero_le _))⟩
   ·rename_i e' a len cap heq
    cases heq
    simp only at h
    split at h
    ·rename_i hc
     obtain ⟨_,hlc,hcm⟩:=hc
     obtain ⟨elems,hm,h⟩:=Option.bind_eq_some_iff.1 h
     obtain ⟨rest,hrest,rfl⟩:=Option.map_eq_some_iff.1 h
     simp only [DataW.weights,hu,List.mem_cons,List.mem_append] at hw
     by_cases h0 : len = 0
     ·subst h0
      exact ⟨[.list []],.slice hu (fun row hr=>by cases hr) (by simp),.one (.list0 hcm)⟩
     ·have hel : ∀ i,i < len → ∃ row : List PV,HasTy P e row ∧ ∃ ec : List Value,ec.length = P.cellsOf e ∧ (∀ j,j < P.cellsOf e → w.cell? ((a.add (i * P.cellsOf e)).add j) = ec[j]?) ∧ RowRel (heapOf w) row ec := by
       intro i hi
       have hx:=mapM_some_get hm i i (by simp [hi])
       have hl:=mapM_some_length hm
       simp only [List.length_range] at hl
       rw [List.getElem?_eq_getElem (by omega)] at hx
       obtain ⟨ec,h1,h2⟩:=Option.bind_eq_some_iff.1 hx
       obtain ⟨_,h3,h4⟩:=World.cells?_some h1
       obtain ⟨row,g1,g2⟩:=ih e ec _ hok.1 h2 fun n hn=>hw n (.inr (.inl (weightsAll_mem (List.mem_map.2 ⟨_,List.getElem_mem _,rfl⟩) hn)))
       exact ⟨row,g1,ec,h3,h4,g2⟩
      obtain ⟨rows,hrl,hrp⟩:=rows_of _ len hel
      -- the block
      have h00 : w.cell? ((a.add (0 * P.cellsOf e)).add 0) = w.cell? a:=by simp [Addr.add]
      obtain ⟨_,_,ec0,hec0,hcell0,_⟩:=hel 0 (by omega)
      have hc0 : w.cell? a = some (ec0[0]'(by omega)):=by
       rw [← h00,hcell0 0 hok.2];exact List.getElem?_eq_getElem _
      obtain ⟨hsp,arr,ty,fr,hblk,_⟩:=cell_block hc0
      obtain ⟨b,o,sp⟩:=a
      simp only at hsp hblk
      subst hsp
      have hcellat : ∀ i,i < len → ∀ j,j < P.cellsOf e → w.cell? (((⟨b,o,none⟩ : Addr).add (i * P.cellsOf e)).add j) = arr[o + i * P.cellsOf e + j]?:=by
       intro i _ j _
       rw [Addr.add_at,Addr.add_at,cell_at hblk]
      have hsz : o + rows.length * P.cellsOf e ≤ arr.size:=by
       obtain ⟨_,_,ec,hec,hcell,_⟩:=hel (len - 1) (by omega)
       have h1:=hcell (P.cellsOf e - 1) (by omega)
       rw [hcellat (len - 1) (by omega) _ (by omega),List.getElem?_eq_getElem (by omega)] at h1
       have h2 : o + (len - 1) * P.cellsOf e + (P.cellsOf e - 1) < arr.size:=by
        rcases Nat.lt_or_ge (o + (len - 1) * P.cellsOf e + (P.cellsOf e - 1)) arr.size with h | h
        ·exact h
        ·rw [Array.getElem?_eq_none h] at h1;cases h1
       rw [hrl]
       have h3 : len * P.cellsOf e = (len - 1) * P.cellsOf e + P.cellsOf e:=by
        rw [← Nat.succ_mul];congr 1;omega
       omega
      refine ⟨[.list rows],.slice hu (fun row hr=>?_) ?_,.one ?_⟩
      rotate_left
      ·have h1 := hw _ (.inl rfl)
       have hl:=mapM_some_length hm
       simp only [List.length_map,List.length_range] at h1 hl
       rw [hrl,← hl]
       exact Nat.le_trans (Nat.mul_le_mul_right _ (Nat.le_add_right _ _)) h1
      rotate_left
      ·obtain ⟨i,hi⟩ := List.mem_iff_getElem?.1 hr
       exact (hrp i row hi).1
      ·have key : Rel (heapOf w) noSig (.list rows) (.slice (some ⟨b,o,none⟩) rows.length cap) := by
        refine .list (esz:=P.cellsOf e) hblk (by omega) hcm ?_ hsz ?_
        ·intro r row hr
         obtain ⟨_,ec,h1,_,h3⟩:=hrp r row hr
         rw [h3.1,h1]
        ·intro r row j v c hr hj hcc
         have hrlt:=lt_of_getElem? hr
         obtain ⟨_,ec,h1,h2,h3⟩:=hrp r row hr
         have hjl:=lt_of_getElem? hj
         have h4:=h3.1
         have h5:=h2 j (by omega)
         rw [hcellat r (by omega) j (by omega),hcc] at h5
         exact h3.2 j v c hj h5.symm
       rw [hrl] at key
       exact key
    ·cases h
  ·rename_i fs hu
   rw [hu] at h
   simp only [Bool.and_eq_true] at hok
   have h' : (if cs.length = P.cellsOf t then (fs.toList.mapM fun f=>DataW.trod enc P w 0 spare held fuel f.type ((cs.drop f.offset).take (P.cellsOf f.type))).map fun xs=>((DataW.agg (xs.map (·.1)) : DataW H),xs.flatMap (·.2)) else none) = some x:=by
    split at h
    all_goals first | (rename_i heq;cases heq;exact h) | (rename_i heq;cases heq;done) | (exfalso;simp only [Option.some.injEq,reduceCtorEq] at *;done) | (simp_all;done)
   split at h'
   ·rename_i hlen
    obtain ⟨xs,hm,rfl⟩:=Option.map_eq_some_iff.1 h'
    simp only [DataW.weights,hu] at hw
    obtain ⟨_,parts,h1,h2,h3⟩:=fields_rel hlen ih fs.toList 0 xs hok.1 hok.2 hm hw
    refine ⟨parts.flatten,.struct hu (by simpa using h1) (fun i f row hf hr=>h2 i f row (by simpa using hf) hr),by simpa using h3⟩
   ·cases h'
  ·rename_i n e hu
   rw [hu] at h
   simp only [Bool.and_eq_true,beq_iff_eq] at hok
   have h' : (if cs.length = P.cellsOf t then ((List.range n).mapM fun i=>DataW.trod enc P w 0 spare held fuel e ((cs.drop (i * P.cellsOf e)).take (P.cellsOf e))).map fun xs=>((DataW.agg (xs.map (·.1)) : DataW H),xs.flatMap (·.2)) else none) = some x:=by
    split at h
    all_goals first | (rename_i heq;cases heq;exact h) | (rename_i heq;cases heq;done) | (exfalso;simp only [Option.some.injEq,reduceCtorEq] at *;done) | (simp_all;done)
   split at h'
   ·rename_i hlen
    obtain ⟨xs,hm,rfl⟩:=Option.map_eq_some_iff.1 h'
    rw [List.range_eq_range'] at hm
    simp only [DataW.weights,hu] at hw
    obtain ⟨parts,h1,h2,h3⟩:=elems_rel hok.1 ih n 0 xs (by rw [hlen,← hok.2];congr 1;omega) hm hw
    refine ⟨parts.flatten,.array hu h1 h2,by simpa using h3⟩
   ·cases h'
  ·cases hok
end
section
variable {P : Program} {t : TypeId} {row : List PV}
theorem HasTy.int' {k : IntKind} (hu : P.underlying t = some (.int k)) (h : HasTy P t row) : ∃ n,row = [.int k n] ∧ (Lit.int k n).wf = true:=by
 cases h with
 | bool h1=>rw [h1] at hu;cases hu
 | int h1 wf=>rw [h1] at hu;cases hu;exact ⟨_,rfl,wf⟩
 | str h1 hs hb=>rw [h1] at hu;cases hu
 | slice h1 hr hb=>rw [h1] at hu;cases hu
 | struct h1 hl hp=>rw [h1] at hu;cases hu
 | array h1 hl hp=>rw [h1] at hu;cases hu
theorem HasTy.str' (hu : P.underlying t = some .string) (h : HasTy P t row) : ∃ s,row = [.str s] ∧ s.size ≤ maxLen:=by
 cases h with
 | bool h1=>rw [h1] at hu;cases hu
 | int h1 wf=>rw [h1] at hu;cases hu
 | str h1 hs hb=>rw [h1] at hu;cases hu;exact ⟨_,rfl,hs⟩
 | slice h1 hr hb=>rw [h1] at hu;cases hu
 | struct h1 hl hp=>rw [h1] at hu;cases hu
 | array h1 hl hp=>rw [h1] at hu;cases hu
theorem HasTy.bool' (hu : P.underlying t = some .bool) (h : HasTy P t row) : ∃ b,row = [.bool b]:=by
 cases h with
 | bool h1=>rw [h1] at hu;cases hu;exact ⟨_,rfl⟩
 | int h1 wf=>rw [h1] at hu;cases hu
 | str h1 hs hb=>rw [h1] at hu;cases hu
 | slice h1 hr hb=>rw [h1] at hu;cases hu
 | struct h1 hl hp=>rw [h1] at hu;cases hu
 | array h1 hl hp=>rw [h1] at hu;cases hu
theorem HasTy.slice' {e : TypeId} (hu : P.underlying t = some (.slice e)) (h : HasTy P t row) : ∃ rows,row = [.list rows] ∧ ∀ r ∈ rows,HasTy P e r:=by
 cases h with
 | bool h1=>rw [h1] at hu;cases hu
 | int h1 wf=>rw [h1] at hu;cases hu
 | str h1 hs hb=>rw [h1] at hu;cases hu
 | slice h1 hr hb=>rw [h1] at hu;cases hu;exact ⟨_,rfl,hr⟩
 | struct h1 hl hp=>rw [h1] at hu;cases hu
 | array h1 hl hp=>rw [h1] at hu;cases hu
theorem HasTy.sliceB {e : TypeId} (hu : P.underlying t = some (.slice e)) (h : HasTy P t row) : ∃ rows,row = [.list rows] ∧ (∀ r ∈ rows,HasTy P e r) ∧ rows.length * P.bytesOf e ≤ reachBytes:=by
 cases h with
 | slice h1 hr hb=>rw [h1] at hu;cases hu;exact ⟨_,rfl,hr,hb⟩
 | bool h1=>rw [h1] at hu;cases hu
 | int h1 wf=>rw [h1] at hu;cases hu
 | str h1 hs hb=>rw [h1] at hu;cases hu
 | struct h1 hl hp=>rw [h1] at hu;cases hu
 | array h1 hl hp=>rw [h1] at hu;cases hu
theorem HasTy.struct' {ti : TI} {l : List (Nat × Nat × Nat × Bool)} (ht : tinfo P t = some ti) (hk : ti.kind = .struct l) (h : HasTy P t row) : ∃ parts : List (List PV),row = parts.flatten ∧ parts.length = l.length ∧
  ∀ (i : Nat) (x : Nat × Nat × Nat × Bool) (r : List PV),l[i]? = some x → parts[i]? = some r → HasTy P x.2.1 r:=by
 obtain ⟨i,d,h1,h2,rfl⟩:=tinfo_some ht
 obtain ⟨fields,rfl,rfl,_⟩:=tkOf_struct hk
 cases h with
 | bool g=>rw [g] at h2;cases h2
 | int g wf=>rw [g] at h2;cases h2
 | str g hs hb=>rw [g] at h2;cases h2
 | slice g hr hb=>rw [g] at h2;cases h2
 | array g hl hp=>rw [g] at h2;cases h2
 | struct g hl hp=>
  rw [g] at h2;cases h2
  refine ⟨_,rfl,by simpa using hl,fun i x r hx hr=>?_⟩
  rw [List.getElem?_map,Option.map_eq_some_iff] at hx
  obtain ⟨f,hf,rfl⟩:=hx
  exact hp i f r (by simpa using hf) hr
end
end Go.Pv
