import Derived.Test.YtbimioonhfhflaaAPvData
import Derived.DataReads
import Derived.ChangeShapes
import Derived.WalkKit
import Derived.ProofKit
import Derived.OpenShut
import Derived.Below
import Derived.Carry
import Derived.SizedLaws
import Derived.Test.YtbimioonhfhflaaAMnD
set_option linter.unusedVariables false
set_option linter.unusedSimpArgs false
namespace Go.Pv
open Go
inductive HasTy (P : Program) : TypeId → List PV → Prop where
 | bool {t b} (h : P.underlying t = some .bool) : HasTy P t [.bool b]
 | int {t k n} (h : P.underlying t = some (.int k)) (wf : (Lit.int k n).wf = true) : HasTy P t [.int k n]
 | str {t s} (h : P.underlying t = some .string) (hs : s.size ≤ maxLen) (hb : s.size ≤ reachBytes) : HasTy P t [.str s]
 | slice {t e rows} (h : P.underlying t = some (.slice e)) (hr : ∀ row ∈ rows,HasTy P e row) (hb : rows.length * P.bytesOf e ≤ reachBytes) : HasTy P t [.list rows]
 | struct {t} {fs : Array Field} {parts : List (List PV)} (h : P.underlying t = some (.struct fs)) (hl : parts.length = fs.size)
   (hp : ∀ (i : Nat) (f : Field) (row : List PV),fs[i]? = some f → parts[i]? = some row → HasTy P f.type row) : HasTy P t parts.flatten
 | array {t n e} {parts : List (List PV)} (h : P.underlying t = some (.array n e)) (hl : parts.length = n) (hp : ∀ row ∈ parts,HasTy P e row) : HasTy P t parts.flatten
def RowRel (pub : PHeap) (row : List PV) (cs : List Value) : Prop:=row.length = cs.length ∧ ∀ (j : Nat) (v : PV) (c : Value),row[j]? = some v → cs[j]? = some c → Rel pub noSig v c
theorem RowRel.nil {pub : PHeap} : RowRel pub [] []:=⟨rfl,fun j v c h=>by simp at h⟩
theorem RowRel.one {pub : PHeap} {v : PV} {c : Value} (h : Rel pub noSig v c) : RowRel pub [v] [c]:=⟨rfl,fun j x y hx hy=>by
 cases j with
 | zero=>simp at hx hy;subst hx hy;exact h
 | succ j=>simp at hx⟩
theorem RowRel.append {pub : PHeap} {r r' : List PV} {cs cs' : List Value} (h : RowRel pub r cs) (g : RowRel pub r' cs') : RowRel pub (r ++ r') (cs ++ cs'):=by
 refine ⟨by simp [h.1,g.1],fun j v c hv hc=>?_⟩
 rw [List.getElem?_append] at hv hc
 split at hv
 ·rename_i hlt;rw [if_pos (by rw [← h.1];exact hlt)] at hc;exact h.2 j v c hv hc
 ·rename_i hge;rw [if_neg (by rw [← h.1];exact hge),← h.1] at hc;exact g.2 _ v c hv hc
def contig (P : Program) (total : Nat) : List Field → Nat → Bool
 | [],o=>o == total
 | f :: r,o=>f.offset == o && contig P total r (o + P.cellsOf f.type)
def tyOK (P : Program) (S : List TypeId) (t : TypeId) : Bool:=match P.underlying t with
 | some .bool | some (.int _) | some .string=>true
 | some (.slice e)=>S.contains e && decide (0 < P.cellsOf e)
 | some (.struct fs)=>contig P (P.cellsOf t) fs.toList 0 && fs.toList.all fun f=>S.contains f.type
 | some (.array n e)=>S.contains e && n * P.cellsOf e == P.cellsOf t
 | _=>false
theorem rows_of {α : Type} (p : Nat → α → Prop) : ∀ n,(∀ i,i < n → ∃ x,p i x) → ∃ l : List α,l.length = n ∧ ∀ i x,l[i]? = some x → p i x:=by
 intro n
 induction n with
 | zero=>intro _;exact ⟨[],rfl,fun i x h=>by simp at h⟩
 | succ n ih=>
  intro h
  obtain ⟨l,hl,hp⟩:=ih fun i hi=>h i (by omega)
  obtain ⟨x,hx⟩:=h n (by omega)
  refine ⟨l ++ [x],by simp [hl],fun i y hy=>?_⟩
  rw [List.getElem?_append] at hy
  split at hy
  ·exact hp i y hy
  ·rename_i hge
   have hi:=lt_of_getElem? hy
   simp only [List.length_cons,List.length_nil] at hi
   have hin : i = n:=by omega
   subst hin
   rw [show i - l.length = 0 by omega] at hy
   simp at hy;subst hy;exact hx
section
variable {H : Type} {enc : TypeId × Value → H} {P : Program} {S : List TypeId} {w : World} {spare : Nat → Bool} {held : Bool}
theorem fields_rel {fuel total : Nat} {cs : List Value} {pub : PHeap} (hcs : cs.length = total)
  (ih : ∀ (t : TypeId) (cs : List Value) (x : DataW H × List MemPlace),S.contains t = true → DataW.trod enc P w 0 spare held fuel t cs = some x → (∀ n ∈ DataW.weights P t x.1,n ≤ reachBytes) → ∃ row,HasTy P t row ∧ RowRel pub row cs) :
  ∀ (fs : List Field) (o : Nat) (xs : List (DataW H × List MemPlace)),contig P total fs o = true → (fs.all fun f=>S.contains f.type) = true →
   (fs.mapM fun f=>DataW.trod enc P w 0 spare held fuel f.type ((cs.drop f.offset).take (P.cellsOf f.type))) = some xs → (∀ n ∈ DataW.weightsEach P (fs.map (·.type)) (xs.map (·.1)),n ≤ reachBytes) →
   o ≤ total ∧ ∃ parts : List (List PV),parts.length = fs.length ∧ (∀ (i : Nat) (f : Field) (row : List PV),fs[i]? = some f → parts[i]? = some row → HasTy P f.type row) ∧ RowRel pub parts.flatten (cs.drop o):=by
 intro fs
 induction fs with
 | nil=>
  intro o xs hc _ _ _
  simp only [contig,beq_iff_eq] at hc
  refine ⟨by omega,[],rfl,fun i f row h=>by simp at h,?_⟩
  rw [List.drop_eq_nil_of_le (by omega)];exact .nil
 | cons f r ih2=>
  intro o xs hc ha hm hw
  simp only [contig,Bool.and_eq_true,beq_iff_eq] at hc
  simp only [List.all_cons,Bool.and_eq_true] at ha
  obtain ⟨ho,hc⟩:=hc
  rw [List.mapM_cons] at hm
  cases hx : DataW.trod enc P w 0 spare held fuel f.type ((cs.drop f.offset).take (P.cellsOf f.type)) with
  | none=>rw [hx] at hm;simp at hm
  | some x=>
   cases hxs : (r.mapM fun f=>DataW.trod enc P w 0 spare held fuel f.type ((cs.drop f.offset).take (P.cellsOf f.type))) with
   | none=>rw [hx,hxs] at hm;simp at hm
   | some ys=>
    rw [hx,hxs] at hm
    obtain rfl : x :: ys = xs:=by simpa using hm
    simp only [List.map_cons,DataW.weightsEach,List.mem_append] at hw
    obtain ⟨h1,parts,h2,h3,h4⟩:=ih2 _ ys hc ha.2 hxs fun n hn=>hw n (.inr hn)
    obtain ⟨row,g1,g2⟩:=ih _ _ _ ha.1 hx fun n hn=>hw n (.inl hn)
    refine ⟨by omega,row :: parts,by simp [h2],fun i f' row' hf hr=>?_,?_⟩
    ·cases i with
     | zero=>simp at hf hr;subst hf hr;exact g1
     | succ i=>exact h3 i f' row' (by simpa using hf) (by simpa using hr)
    ·rw [List.flatten_cons]
     have hsplit : cs.drop o = (cs.drop o).take (P.cellsOf f.type) ++ cs.drop (o + P.cellsOf f.type):=by
      rw [← List.drop_drop,List.take_append_drop]
     rw [hsplit,← ho]
     rw [← ho] at h4
     exact g2.append h4
theorem elems_rel {fuel : Nat} {cs : List Value} {pub : PHeap} {e : TypeId} (hin : S.contains e = true)
  (ih : ∀ (t : TypeId) (cs : List Value) (x : DataW H × List MemPlace),S.contains t = true → DataW.trod enc P w 0 spare held fuel t cs = some x → (∀ n ∈ DataW.weights P t x.1,n ≤ reachBytes) → ∃ row,HasTy P t row ∧ RowRel pub row cs) :
  ∀ (k i : Nat) (xs : List (DataW H × List MemPlace)),cs.length = (i + k) * P.cellsOf e →
   ((List.range' i k).mapM fun i=>DataW.trod enc P w 0 spare held fuel e ((cs.drop (i * P.cellsOf e)).take (P.cellsOf e))) = some xs → (∀ n ∈ DataW.weightsAll P e (xs.map (·.1)),n ≤ reachBytes) →
   ∃ parts : List (List PV),parts.length = k ∧ (∀ row ∈ parts,HasTy P e row) ∧ RowRel pub parts.flatten (cs.drop (i * P.cellsOf e)):=by
 intro k
 induction k with
 | zero=>
  intro i xs hc _ _
  refine ⟨[],rfl,by simp,?_⟩
  rw [List.drop_eq_nil_of_le (by rw [hc];exact Nat.le_refl _)];exact .nil
 | succ k ih2=>
  intro i xs hc hm hw
  rw [List.range'_succ,List.mapM_cons] at hm
  cases hx : DataW.trod enc P w 0 spare held fuel e ((cs.drop (i * P.cellsOf e)).take (P.cellsOf e)) with
  | none=>rw [hx] at hm;simp at hm
  | some x=>
   cases hxs : ((List.range' (i + 1) k).mapM fun i=>DataW.trod enc P w 0 spare held fuel e ((cs.drop (i * P.cellsOf e)).take (P.cellsOf e))) with
   | none=>rw [hx,hxs] at hm;simp at hm
   | some ys=>
    rw [hx,hxs] at hm
    obtain rfl : x :: ys = xs:=by simpa using hm
    simp only [List.map_cons,DataW.weightsAll,List.mem_append] at hw
    obtain ⟨parts,h2,h3,h4⟩:=ih2 (i + 1) ys (by rw [hc];congr 1;omega) hxs fun n hn=>hw n (.inr hn)
    obtain ⟨row,g1,g2⟩:=ih _ _ _ hin hx fun n hn=>hw n (.inl hn)
    refine ⟨row :: parts,by simp [h2],fun row' hr=>?_,?_⟩
    ·rcases List.mem_cons.1 hr with rfl | hr
     ·exact g1
     ·exact h3 _ hr
    ·rw [List.flatten_cons]
     have hsplit : cs.drop (i * P.cellsOf e) = (cs.drop (i * P.cellsOf e)).take (P.cellsOf e) ++ cs.drop ((i + 1) * P.cellsOf e):=by
      rw [Nat.add_mul,Nat.one_mul,← List.drop_drop,List.take_append_drop]
     rw [hsplit]
     exact g2.append h4
def heapOf (w : World) : PHeap:=fun b=>w.heap[b]?
theorem cell_block {w : World} {a : Addr} {c : Value} (h : w.cell? a = some c) : a.spot = none ∧ ∃ cs ty fr,w.heap[a.block]? = some (.cells cs ty fr) ∧ cs[a.off]? = some c:=by
 unfold World.cell? at h
 split at h
 ·rename_i cs ty fr hh
  split at h
  ·cases h
  ·rename_i hs;exact ⟨by simpa using hs,cs,ty,fr,hh,h⟩
 ·cases h
theorem weightsAll_mem {H : Type} {P : Program} {e : TypeId} : ∀ {l : List (DataW H)} {d : DataW H} {n : Nat},d ∈ l → n ∈ DataW.weights P e d → n ∈ DataW.weightsAll P e l
 | a :: r,d,n,h,hn=>by
  simp only [DataW.weightsAll,List.mem_append]
  rcases List.mem_cons.1 h with rfl | h
  ·exact .inl hn
  ·exact .inr (weightsAll_mem h hn)
theorem trod_rel (hS : ∀ t,S.contains t = true → tyOK P S t = true) : ∀ (fuel : Nat) (t : TypeId) (cs : List Value) (x : DataW H × List MemPlace),S.contains t = true →
  DataW.trod enc P w 0 spare held fuel t cs = some x → (∀ n ∈ DataW.weights P t x.1,n ≤ reachBytes) → ∃ row,HasTy P t row ∧ RowRel (heapOf w) row cs:=by
 intro fuel
 induction fuel with
 | zero=>intro t cs x _ h;simp [DataW.trod] at h
 | succ fuel ih=>
  intro t cs x hin h hw
  have hok:=hS t hin
  unfold tyOK at hok
  unfold DataW.trod at h
  split at hok
  ·rename_i hu
   rw [hu] at h
   split at h <;> first | (cases h;done) | skip
   all_goals first | (rename_i heq;cases heq;done) | skip
   exact ⟨_,.bool hu,.one .bool⟩
  ·rename_i k hu
   rw [hu] at h
   split at h <;> first | (cases h;done) | skip
   all_goals first | (rename_i heq;cases heq;done) | skip
   rename_i heq;cases heq
   split at h
   ·rename_i hk;obtain ⟨rfl,hwf⟩:=hk;exact ⟨_,.int hu hwf,.one .int⟩
   ·cases h
  ·rename_i hu
   rw [hu] at h
   split at h <;> first | (cases h;done) | skip
   all_goals first | (rename_i heq;cases heq;done) | skip
   split at h
   ·rename_i s hs
    cases h
    exact ⟨_,.str hu hs (by simpa [DataW.weights] using hw),.one (.str hs)⟩
   ·cases h
  ·rename_i e hu
   rw [hu] at h
   simp only [Bool.and_eq_true,decide_eq_true_eq] at hok
   split at h <;> first | (cases h;done) | skip
   all_goals first | (rename_i heq;cases heq;done) | skip
   ·exact ⟨[.list []],.slice hu (fun row hr=>by cases hr) (by simp),.one (.list0 (Nat.zero_le _))⟩
   ·rename_i e' a len cap heq
    cases heq
    simp only at h
    split at h
    ·rename_i hc
     obtain ⟨_,hlc,hcm⟩:=hc
     obtain ⟨elems,hm,h⟩:=Option.bind_eq_some_iff.1 h
     obtain ⟨rest,hrest,rfl⟩:=Option.map_eq_some_iff.1 h
     simp only [DataW.weights,hu,List.mem_cons,List.mem_append] at hw
     by_cases h0 : len = 0
     ·subst h0
      exact ⟨[.list []],.slice hu (fun row hr=>by cases hr) (by simp),.one (.list0 hcm)⟩
     ·have hel : ∀ i,i < len → ∃ row : List PV,HasTy P e row ∧ ∃ ec : List Value,ec.length = P.cellsOf e ∧ (∀ j,j < P.cellsOf e → w.cell? ((a.add (i * P.cellsOf e)).add j) = ec[j]?) ∧ RowRel (heapOf w) row ec := by
       intro i hi
       have hx:=mapM_some_get hm i i (by simp [hi])
       have hl:=mapM_some_length hm
       simp only [List.length_range] at hl
       rw [List.getElem?_eq_getElem (by omega)] at hx
       obtain ⟨ec,h1,h2⟩:=Option.bind_eq_some_iff.1 hx
       obtain ⟨_,h3,h4⟩:=World.cells?_some h1
       obtain ⟨row,g1,g2⟩:=ih e ec _ hok.1 h2 fun n hn=>hw n (.inr (.inl (weightsAll_mem (List.mem_map.2 ⟨_,List.getElem_mem _,rfl⟩) hn)))
       exact ⟨row,g1,ec,h3,h4,g2⟩
      obtain ⟨rows,hrl,hrp⟩:=rows_of _ len hel
      -- the block
      have h00 : w.cell? ((a.add (0 * P.cellsOf e)).add 0) = w.cell? a:=by simp [Addr.add]
      obtain ⟨_,_,ec0,hec0,hcell0,_⟩:=hel 0 (by omega)
      have hc0 : w.cell? a = some (ec0[0]'(by omega)):=by
       rw [← h00,hcell0 0 hok.2];exact List.getElem?_eq_getElem _
      obtain ⟨hsp,arr,ty,fr,hblk,_⟩:=cell_block hc0
      obtain ⟨b,o,sp⟩:=a
      simp only at hsp hblk
      subst hsp
      have hcellat : ∀ i,i < len → ∀ j,j < P.cellsOf e → w.cell? (((⟨b,o,none⟩ : Addr).add (i * P.cellsOf e)).add j) = arr[o + i * P.cellsOf e + j]?:=by
       intro i _ j _
       rw [Addr.add_at,Addr.add_at,cell_at hblk]
      have hsz : o + rows.length * P.cellsOf e ≤ arr.size:=by
       obtain ⟨_,_,ec,hec,hcell,_⟩:=hel (len - 1) (by omega)
       have h1:=hcell (P.cellsOf e - 1) (by omega)
       rw [hcellat (len - 1) (by omega) _ (by omega),List.getElem?_eq_getElem (by omega)] at h1
       have h2 : o + (len - 1) * P.cellsOf e + (P.cellsOf e - 1) < arr.size:=by
        rcases Nat.lt_or_ge (o + (len - 1) * P.cellsOf e + (P.cellsOf e - 1)) arr.size with h | h
        ·exact h
        ·rw [Array.getElem?_eq_none h] at h1;cases h1
       rw [hrl]
       have h3 : len * P.cellsOf e = (len - 1) * P.cellsOf e + P.cellsOf e:=by
        rw [← Nat.succ_mul];congr 1;omega
       omega
      refine ⟨[.list rows],.slice hu (fun row hr=>?_) ?_,.one ?_⟩
      rotate_left
      ·have h1 := hw _ (.inl rfl)
       have hl:=mapM_some_length hm
       simp only [List.length_map,List.length_range] at h1 hl
       rw [hrl,← hl]
       exact Nat.le_trans (Nat.mul_le_mul_right _ (Nat.le_add_right _ _)) h1
      rotate_left
      ·obtain ⟨i,hi⟩ := List.mem_iff_getElem?.1 hr
       exact (hrp i row hi).1
      ·have key : Rel (heapOf w) noSig (.list rows) (.slice (some ⟨b,o,none⟩) rows.length cap) := by
        refine .list (esz:=P.cellsOf e) hblk (by omega) hcm ?_ hsz ?_
        ·intro r row hr
         obtain ⟨_,ec,h1,_,h3⟩:=hrp r row hr
         rw [h3.1,h1]
        ·intro r row j v c hr hj hcc
         have hrlt:=lt_of_getElem? hr
         obtain ⟨_,ec,h1,h2,h3⟩:=hrp r row hr
         have hjl:=lt_of_getElem? hj
         have h4:=h3.1
         have h5:=h2 j (by omega)
         rw [hcellat r (by omega) j (by omega),hcc] at h5
         exact h3.2 j v c hj h5.symm
       rw [hrl] at key
       exact key
    ·cases h
  ·rename_i fs hu
   rw [hu] at h
   simp only [Bool.and_eq_true] at hok
   have h' : (if cs.length = P.cellsOf t then (fs.toList.mapM fun f=>DataW.trod enc P w 0 spare held fuel f.type ((cs.drop f.offset).take (P.cellsOf f.type))).map fun xs=>((DataW.agg (xs.map (·.1)) : DataW H),xs.flatMap (·.2)) else none) = some x:=by
    split at h
    all_goals first | (rename_i heq;cases heq;exact h) | (rename_i heq;cases heq;done) | (exfalso;simp only [Option.some.injEq,reduceCtorEq] at *;done) | (simp_all;done)
   split at h'
   ·rename_i hlen
    obtain ⟨xs,hm,rfl⟩:=Option.map_eq_some_iff.1 h'
    simp only [DataW.weights,hu] at hw
    obtain ⟨_,parts,h1,h2,h3⟩:=fields_rel hlen ih fs.toList 0 xs hok.1 hok.2 hm hw
    refine ⟨parts.flatten,.struct hu (by simpa using h1) (fun i f row hf hr=>h2 i f row (by simpa using hf) hr),by simpa using h3⟩
   ·cases h'
  ·rename_i n e hu
   rw [hu] at h
   simp only [Bool.and_eq_true,beq_iff_eq] at hok
   have h' : (if cs.length = P.cellsOf t then ((List.range n).mapM fun i=>DataW.trod enc P w 0 spare held fuel e ((cs.drop (i * P.cellsOf e)).take (P.cellsOf e))).map fun xs=>((DataW.agg (xs.map (·.1)) : DataW H),xs.flatMap (·.2)) else none) = some x:=by
    split at h
    all_goals first | (rename_i heq;cases heq;exact h) | (rename_i heq;cases heq;done) | (exfalso;simp only [Option.some.injEq,reduceCtorEq] at *;done) | (simp_all;done)
   split at h'
   ·rename_i hlen
    obtain ⟨xs,hm,rfl⟩:=Option.map_eq_some_iff.1 h'
    rw [List.range_eq_range'] at hm
    simp only [DataW.weights,hu] at hw
    obtain ⟨parts,h1,h2,h3⟩:=elems_rel hok.1 ih n 0 xs (by rw [hlen,← hok.2];congr 1;omega) hm hw
    refine ⟨parts.flatten,.array hu h1 h2,by simpa using h3⟩
   ·cases h'
  ·cases hok
end
section
variable {P : Program} {t : TypeId} {row : List PV}
theorem HasTy.int' {k : IntKind} (hu : P.underlying t = some (.int k)) (h : HasTy P t row) : ∃ n,row = [.int k n] ∧ (Lit.int k n).wf = true:=by
 cases h with
 | bool h1=>rw [h1] at hu;cases hu
 | int h1 wf=>rw [h1] at hu;cases hu;exact ⟨_,rfl,wf⟩
 | str h1 hs hb=>rw [h1] at hu;cases hu
 | slice h1 hr hb=>rw [h1] at hu;cases hu
 | struct h1 hl hp=>rw [h1] at hu;cases hu
 | array h1 hl hp=>rw [h1] at hu;cases hu
theorem HasTy.str' (hu : P.underlying t = some .string) (h : HasTy P t row) : ∃ s,row = [.str s] ∧ s.size ≤ maxLen:=by
 cases h with
 | bool h1=>rw [h1] at hu;cases hu
 | int h1 wf=>rw [h1] at hu;cases hu
 | str h1 hs hb=>rw [h1] at hu;cases hu;exact ⟨_,rfl,hs⟩
 | slice h1 hr hb=>rw [h1] at hu;cases hu
 | struct h1 hl hp=>rw [h1] at hu;cases hu
 | array h1 hl hp=>rw [h1] at hu;cases hu
theorem HasTy.sliceB {e : TypeId} (hu : P.underlying t = some (.slice e)) (h : HasTy P t row) : ∃ rows,row = [.list rows] ∧ (∀ r ∈ rows,HasTy P e r) ∧ rows.length * P.bytesOf e ≤ reachBytes:=by
 cases h with
 | slice h1 hr hb=>rw [h1] at hu;cases hu;exact ⟨_,rfl,hr,hb⟩
 | bool h1=>rw [h1] at hu;cases hu
 | int h1 wf=>rw [h1] at hu;cases hu
 | str h1 hs hb=>rw [h1] at hu;cases hu
 | struct h1 hl hp=>rw [h1] at hu;cases hu
 | array h1 hl hp=>rw [h1] at hu;cases hu
end
end Go.Pv
namespace Go.Pv
open Go Go.RowKit Go.ChangeShapes Go.WideShapes Go.ChangeAt
def argOf (P : Program) (t : TypeId) (row : List PV) : PV:=if aggOf P t then .agg row else row.headD .any
def AllTy (P : Program) : List TypeId → List (List PV) → Prop
 | [],[]=>True
 | t :: ts,r :: rs=>HasTy P t r ∧ AllTy P ts rs
 | _,_=>False
def argsOf (P : Program) : List TypeId → List (List PV) → List PV
 | t :: ts,r :: rs=>argOf P t r :: argsOf P ts rs
 | _,_=>[]
section
variable {H : Type} {enc : TypeId × Value → H} {P : Program} {S : List TypeId} {w : World} {spare : Nat → Bool} {held : Bool}
theorem arg_rel (hS : ∀ t,S.contains t = true → tyOK P S t = true) {base : Nat} {t : TypeId} {v : Value} {d : DataW H} {ps : List MemPlace} (ht : S.contains t = true)
  (hok : Value.okWide P w .any base t v) (h : DataW.Trod enc P w 0 spare held t v d ps) (hz : ∀ n ∈ DataW.weights P t d,n ≤ reachBytes) : ∃ row,HasTy P t row ∧ Rel (heapOf w) noSig (argOf P t row) v:=by
 obtain ⟨fuel,h⟩:=h
 obtain ⟨row,h1,h2⟩:=trod_rel hS fuel t _ _ ht h hz
 refine ⟨row,h1,?_⟩
 have htO:=hS t ht
 have plain : aggOf P t = false → v.cells = #[v] → Rel (heapOf w) noSig (argOf P t row) v:=by
  intro ha hc
  rw [hc] at h2
  obtain ⟨h3,h4⟩:=h2
  simp only [List.length_cons,List.length_nil] at h3
  obtain ⟨x,rfl⟩:=List.length_eq_one_iff.1 h3
  unfold argOf;rw [ha]
  exact h4 0 x v rfl rfl
 unfold Value.okWide at hok
 unfold tyOK at htO
 unfold aggOf at plain
 split at htO
 ·rename_i hu
  rw [hu] at hok plain
  simp only [Cell.okWide,Cell.ok,hu] at hok
  cases v <;> first | exact hok.elim | exact plain rfl rfl
 ·rename_i k hu
  rw [hu] at hok plain
  simp only [Cell.okWide,Cell.ok,hu] at hok
  cases v <;> first | exact hok.elim | exact plain rfl rfl
 ·rename_i hu
  rw [hu] at hok plain
  simp only [Cell.okWide,Cell.ok,hu] at hok
  cases v <;> first | exact hok.elim | exact plain rfl rfl
 ·rename_i e hu
  rw [hu] at hok plain
  simp only [Cell.okWide,Cell.ok,hu] at hok
  cases v <;> first | exact hok.elim | exact plain rfl rfl
 ·rename_i fs hu
  rw [hu] at hok
  obtain ⟨cs,rfl,_,_⟩:=hok
  have : argOf P t row = .agg row:=by unfold argOf aggOf;rw [hu];rfl
  rw [this]
  refine .agg (by have:=h2.1;simp [Value.cells] at this;omega) fun j x c hx hc=>h2.2 j x c hx (by simpa [Value.cells] using hc)
 ·rename_i n e hu
  rw [hu] at hok
  obtain ⟨cs,rfl,_,_⟩:=hok
  have : argOf P t row = .agg row:=by unfold argOf aggOf;rw [hu];rfl
  rw [this]
  refine .agg (by have:=h2.1;simp [Value.cells] at this;omega) fun j x c hx hc=>h2.2 j x c hx (by simpa [Value.cells] using hc)
 ·cases htO
theorem args_rel (hS : ∀ t,S.contains t = true → tyOK P S t = true) {base : Nat} : ∀ (ts : List TypeId) (vs : List Value) (ds : List (DataW H)) (ps : List MemPlace),(ts.all fun t => S.contains t) = true →
  (∀ (j : Nat) t v,ts[j]? = some t → vs[j]? = some v → Value.okWide P w .any base t v) → DataW.TrodAll enc P w 0 spare held ts vs ds ps → (∀ n ∈ DataW.weightsEach P ts ds,n ≤ reachBytes) →
  ∃ rows,AllTy P ts rows ∧ RowRel (heapOf w) (argsOf P ts rows) vs ∧ ds.length = ts.length:=by
 intro ts
 induction ts with
 | nil=>
  intro vs ds ps _ _ h _
  cases vs <;> cases ds <;> first | exact h.elim | skip
  exact ⟨[],trivial,.nil,rfl⟩
 | cons t ts ih=>
  intro vs ds ps hin hok h hz
  cases vs with
  | nil=>exact h.elim
  | cons v vs=>
   cases ds with
   | nil=>exact h.elim
   | cons d ds=>
    obtain ⟨p,q,h1,h2,_⟩:=h
    simp only [List.all_cons,Bool.and_eq_true] at hin
    simp only [DataW.weightsEach,List.mem_append] at hz
    obtain ⟨row,g1,g2⟩:=arg_rel hS hin.1 (hok 0 t v rfl rfl) h1 fun n hn=>hz n (.inl hn)
    obtain ⟨rows,g3,g4,g5⟩:=ih vs ds q hin.2 (fun j t v a b=>hok (j + 1) t v (by simpa using a) (by simpa using b)) h2 fun n hn=>hz n (.inr hn)
    refine ⟨row :: rows,⟨g1,g3⟩,?_,by simp [g5]⟩
    exact (RowRel.one g2).append g4
theorem args_again {W W' : World} (hl : laidOutB P = true) : ∀ (ts : List TypeId) (vs : List Value) (ds : List (DataW H)) (ps : List MemPlace),(ts.all fun t => P.readableRec t && decide (t < P.types.size)) = true →
  DataW.TrodAll enc P W 0 (fun _=>true) true ts vs ds ps → Below W.heap.size W W' → (∀ x ∈ ps,x.block < W.heap.size) → DataW.TrodAll enc P W' 0 (fun b=>decide (b < W.heap.size)) true ts vs ds ps:=by
 intro ts
 induction ts with
 | nil=>intro vs ds ps _ h _ _;cases vs <;> cases ds <;> first | exact h.elim | exact h
 | cons t ts ih=>
  intro vs ds ps hin h hb hlt
  cases vs with
  | nil=>exact h.elim
  | cons v vs=>
   cases ds with
   | nil=>exact h.elim
   | cons d ds=>
    obtain ⟨p,q,h1,h2,rfl⟩:=h
    simp only [List.all_cons,Bool.and_eq_true,decide_eq_true_eq] at hin
    exact ⟨p,q,Below.trod hl hin.1.1 hin.1.2 h1 hb (fun x hx=>hlt x (by simp [hx])),ih vs ds q hin.2 h2 hb (fun x hx=>hlt x (by simp [hx])),rfl⟩
theorem SR.below {pub pub' : PHeap} {σ' : Sig} {s' : Store} {w' : World} (h : SR ⟨w,pub,noSig,dom [] noSig⟩ pub' σ' s' w') : Below w.heap.size w w':=
 ⟨h.os,h.tape,h.output,h.size,fun k hk=>(h.frame k hk (dom_nil _ _)).1⟩
theorem law_contract {f : FuncId} {fn : Func} {s : ChangeSpec} {tb : TypeId} (S : List TypeId) (hS : (S.all fun t => tyOK P S t) = true) (hl : laidOutB P = true)
  (hp1 : (fn.params.toList.all fun t=>S.contains t) = true) (hp2 : (fn.params.toList.all fun t=>P.readableRec t && decide (t < P.types.size)) = true)
  (hv : s.vars = []) (hr : fn.resultTypes = #[tb]) (hb : P.underlying tb = some .bool)
  (hs : ∀ ds : List (DataW H),ds.length = fn.params.toList.length → s.fn H ds = { results:=[.lit (.bool true)],args:=ds })
  (h : ∀ rows : List (List PV),AllTy P fn.params.toList rows → CallOK P f (argsOf P fn.params.toList rows) [] (.bool true) [])
  (W : World) (base : Nat) (args : Array Value) (ds gs : List (DataW H)) (before : List MemPlace) (hval : ∀ (j : Nat) t v,fn.params[j]? = some t → args[j]? = some v → Value.okWide P W .any base t v)
  (hW : DataW.Whole enc P fn.params.toList s.vars false W args.toList ds gs before)
  (hz : (DataW.weightsEach P (fn.params.toList ++ s.plain.varTypes P) (ds ++ gs)).all (· ≤ reachBytes) = true) :
  Calls P f args W fun e W'=>∃ v,e = .returned v ∧ s.post enc P fn false true false false W args v W':=by
 have hW':=hW
 obtain ⟨p,q,hA,hV,rfl,hfz,hnd⟩:=hW
 rw [hv] at hV
 have hgq : gs = [] ∧ q = []:=by cases gs <;> first | exact ⟨rfl,hV⟩ | exact hV.elim
 obtain ⟨rfl,rfl⟩:=hgq
 have hS' : ∀ t,S.contains t = true → tyOK P S t = true:=fun t ht=>List.all_eq_true.1 hS t (by simpa using ht)
 have hzz : ∀ n ∈ DataW.weightsEach P fn.params.toList ds,n ≤ reachBytes:=by
  intro n hn
  have hvt : s.plain.varTypes P = []:=by simp [DataSpec.varTypes,ChangeSpec.plain,hv]
  rw [hvt,List.append_nil,List.append_nil] at hz
  simpa using List.all_eq_true.1 hz n hn
 obtain ⟨rows,h1,h2,h3⟩:=args_rel hS' fn.params.toList args.toList ds p hp1 (fun j t v a b=>hval j t v (by simpa using a) (by simpa using b)) hA hzz
 refine Calls.mono (h rows h1 (heapOf W) noSig W args (.bare fun b o hb=>hb) ⟨by have:=h2.1;simpa using this.symm,fun j v c hv hc=>h2.2 j v c hv (by simpa using hc)⟩) ?_
 rintro e W' ⟨cv,pub',σ',rfl,hs',hrel⟩
 obtain rfl:=rel_bool hrel
 have hbel:=hs'.below
 refine ⟨_,rfl,ds,[],_,[],p,[],hW',?_,?_,?_,hbel.frame _,fun h=>by cases h⟩
 ·rw [List.append_nil,hs ds h3,hr]
  exact trodAll_cons_mk (shut_bool hb _) trodAll_mk0
 ·rw [List.append_nil,hs ds h3]
  exact args_again hl _ _ _ _ hp2 hA hbel (fun x hx=>hW'.lt x (by simpa using hx))
 ·rw [List.append_nil,hs ds h3,hv];rfl
end
section
variable {P : Program} {t : TypeId} {ti : TI}
theorem fields_of {l : List (Nat × Nat × Nat × Bool)} (ht : tinfo P t = some ti) (hk : ti.kind = .struct l) : ∃ fs : Array Field,P.underlying t = some (.struct fs) ∧ fs.toList.map (·.type) = l.map (·.2.1):=by
 obtain ⟨i,d,h1,h2,rfl⟩:=tinfo_some ht
 obtain ⟨fields,rfl,rfl,_⟩:=tkOf_struct hk
 exact ⟨fields,h2,by simp⟩
theorem und_slice {e esz by' : Nat} {ag : Bool} {z : Option (List PV)} (ht : tinfo P t = some ti) (hk : ti.kind = .slice e esz by' ag z) : P.underlying t = some (.slice e):=by
 obtain ⟨i,d,h1,h2,rfl⟩:=tinfo_some ht
 obtain ⟨rfl,_⟩:=tkOf_slice hk;exact h2
theorem und_int {k : IntKind} (ht : tinfo P t = some ti) (hk : ti.kind = .int k) : P.underlying t = some (.int k):=by
 obtain ⟨i,d,h1,h2,rfl⟩:=tinfo_some ht
 obtain rfl:=tkOf_int hk;exact h2
theorem und_bool (ht : tinfo P t = some ti) (hk : ti.kind = .bool) : P.underlying t = some .bool:=by
 obtain ⟨i,d,h1,h2,rfl⟩:=tinfo_some ht
 obtain rfl:=tkOf_bool hk;exact h2
theorem und_string (ht : tinfo P t = some ti) (hk : ti.kind = .string) : P.underlying t = some .string:=by
 obtain ⟨i,d,h1,h2,rfl⟩:=tinfo_some ht
 obtain rfl:=tkOf_string hk;exact h2
end
theorem list_of {α : Type} (g : α → List PV) : ∀ (rows : List (List PV)),(∀ row ∈ rows,∃ x,row = g x) → ∃ l : List α,rows = l.map g:=by
 intro rows
 induction rows with
 | nil=>intro _;exact ⟨[],rfl⟩
 | cons r rs ih=>
  intro h
  obtain ⟨x,rfl⟩:=h r (by simp)
  obtain ⟨l,rfl⟩:=ih fun row hr=>h row (by simp [hr])
  exact ⟨x :: l,rfl⟩
theorem two_of {α : Type} (l : List α) (h : l.length = 2) : ∃ a b,l = [a,b]:=by
 match l,h with
 | [a,b],_=>exact ⟨a,b,rfl⟩
theorem argOf_agg {P : Program} {t : TypeId} {ti : TI} {row : List PV} (ht : tinfo P t = some ti) (ha : ti.agg = true) : argOf P t row = .agg row:=by
 obtain ⟨i,d,h1,h2,rfl⟩:=tinfo_some ht
 unfold argOf;rw [if_pos ha]
theorem argOf_one {P : Program} {t : TypeId} {ti : TI} {v : PV} (ht : tinfo P t = some ti) (ha : ti.agg = false) : argOf P t [v] = v:=by
 obtain ⟨i,d,h1,h2,rfl⟩:=tinfo_some ht
 have ha' : aggOf P t = false:=ha
 unfold argOf;rw [ha'];rfl
theorem allTy_cons {P : Program} {t : TypeId} {ts : List TypeId} {rows : List (List PV)} (h : AllTy P (t :: ts) rows) : ∃ r rs,rows = r :: rs ∧ HasTy P t r ∧ AllTy P ts rs:=by
 cases rows with
 | nil=>exact h.elim
 | cons r rs=>exact ⟨r,rs,rfl,h.1,h.2⟩
theorem allTy_nil {P : Program} {rows : List (List PV)} (h : AllTy P [] rows) : rows = []:=by
 cases rows with
 | nil=>rfl
 | cons r rs=>exact h.elim
end Go.Pv
namespace Go.Proofs.Ytbimioonhfhflaa
open Go Go.Pv
theorem int_of {row : List PV} (h : HasTy Try.prog 3 row) : ∃ n,row = [.int .i64 n]:=by
 obtain ⟨n,rfl,hw⟩:=h.int' (und_int ty3 rfl)
 exact ⟨n,rfl⟩
theorem str_of {row : List PV} (h : HasTy Try.prog 9 row) : ∃ s,row = [.str s]:=by
 obtain ⟨s,rfl,_⟩:=h.str' (und_string ty9 rfl)
 exact ⟨s,rfl⟩
theorem four_of {α : Type} (l : List α) (h : l.length = 4) : ∃ a b c d,l = [a,b,c,d]:=by
 match l,h with
 | [a,b,c,d],_=>exact ⟨a,b,c,d,rfl⟩
theorem wd_aux {t : TypeId} {row : List PV} (h : HasTy Try.prog t row) : (t = 31 → ∃ f,row = wrd f) ∧ (t = 26 → ∃ l : List Wd,row = [.list (l.map wrd)]):=by
 have hs:=fields_of ty31 rfl
 have hl:=und_slice ty26 rfl
 obtain ⟨fs,hs,hf⟩:=hs
 induction h with
 | bool g=>refine ⟨?_,?_⟩ <;> rintro rfl <;> first | (rw [g] at hs;cases hs;done) | (rw [g] at hl;cases hl;done)
 | int g=>refine ⟨?_,?_⟩ <;> rintro rfl <;> first | (rw [g] at hs;cases hs;done) | (rw [g] at hl;cases hl;done)
 | str g=>refine ⟨?_,?_⟩ <;> rintro rfl <;> first | (rw [g] at hs;cases hs;done) | (rw [g] at hl;cases hl;done)
 | array g=>refine ⟨?_,?_⟩ <;> rintro rfl <;> first | (rw [g] at hs;cases hs;done) | (rw [g] at hl;cases hl;done)
 | slice g hr hb ih=>
  refine ⟨?_,?_⟩
  ·rintro rfl;rw [g] at hs;cases hs
  ·rintro rfl; rw [g] at hl; cases hl
   obtain ⟨l,rfl⟩:=list_of wrd _ fun row hrow=>(ih row hrow).1 rfl
   exact ⟨l,rfl⟩
 | struct g hlen hp ih=>
  refine ⟨?_,?_⟩
  ·rintro rfl; rw [g] at hs; cases hs
   have h4 : fs.toList.length = 2:=by simpa using congrArg List.length hf
   obtain ⟨a,b,hfs⟩:=two_of _ h4
   rw [hfs] at hf
   simp only [List.map_cons,List.map_nil,List.cons.injEq,and_true] at hf
   obtain ⟨ha,hb⟩:=hf
   have hg : ∀ i,fs[i]? = [a,b][i]?:=fun i=>by rw [← hfs,Array.getElem?_toList]
   obtain ⟨r0,r1,rfl⟩:=two_of _ (hlen.trans (by simpa using h4))
   obtain ⟨n,rfl⟩:=str_of (by have:=hp 0 a r0 (by rw [hg];rfl) rfl;rw [ha] at this;exact this)
   obtain ⟨l,rfl⟩:=(ih 1 b r1 (by rw [hg];rfl) rfl).2 hb
   exact ⟨.mk n l,by rw [wrd_eq];rfl⟩
  ·rintro rfl;rw [g] at hl;cases hl
theorem wds_of {row : List PV} (h : HasTy Try.prog 26 row) : ∃ l : List Wd,row = [.list (l.map wrd)]:=(wd_aux h).2 rfl
theorem wd_of {row : List PV} (h : HasTy Try.prog 31 row) : ∃ l : Wd,row = wrd l:=(wd_aux h).1 rfl
theorem ex_aux {t : TypeId} {row : List PV} (h : HasTy Try.prog t row) : (t = 29 → ∃ f,row = exr f) ∧ (t = 27 → ∃ l : List Ex,row = [.list (l.map exr)]):=by
 have hs:=fields_of ty29 rfl
 have hl:=und_slice ty27 rfl
 obtain ⟨fs,hs,hf⟩:=hs
 induction h with
 | bool g=>refine ⟨?_,?_⟩ <;> rintro rfl <;> first | (rw [g] at hs;cases hs;done) | (rw [g] at hl;cases hl;done)
 | int g=>refine ⟨?_,?_⟩ <;> rintro rfl <;> first | (rw [g] at hs;cases hs;done) | (rw [g] at hl;cases hl;done)
 | str g=>refine ⟨?_,?_⟩ <;> rintro rfl <;> first | (rw [g] at hs;cases hs;done) | (rw [g] at hl;cases hl;done)
 | array g=>refine ⟨?_,?_⟩ <;> rintro rfl <;> first | (rw [g] at hs;cases hs;done) | (rw [g] at hl;cases hl;done)
 | slice g hr hb ih=>
  refine ⟨?_,?_⟩
  ·rintro rfl;rw [g] at hs;cases hs
  ·rintro rfl; rw [g] at hl; cases hl
   obtain ⟨l,rfl⟩:=list_of exr _ fun row hrow=>(ih row hrow).1 rfl
   exact ⟨l,rfl⟩
 | struct g hlen hp ih=>
  refine ⟨?_,?_⟩
  ·rintro rfl; rw [g] at hs; cases hs
   have h4 : fs.toList.length = 4:=by simpa using congrArg List.length hf
   obtain ⟨a,b,c,d,hfs⟩:=four_of _ h4
   rw [hfs] at hf
   simp only [List.map_cons,List.map_nil,List.cons.injEq,and_true] at hf
   obtain ⟨ha,hb,hc,hd⟩:=hf
   have hg : ∀ i,fs[i]? = [a,b,c,d][i]?:=fun i=>by rw [← hfs,Array.getElem?_toList]
   obtain ⟨r0,r1,r2,r3,rfl⟩:=four_of _ (hlen.trans (by simpa using h4))
   obtain ⟨n,rfl⟩:=int_of (by have:=hp 0 a r0 (by rw [hg];rfl) rfl;rw [ha] at this;exact this)
   obtain ⟨s,rfl⟩:=str_of (by have:=hp 1 b r1 (by rw [hg];rfl) rfl;rw [hb] at this;exact this)
   obtain ⟨w,rfl⟩:=wds_of (by have:=hp 2 c r2 (by rw [hg];rfl) rfl;rw [hc] at this;exact this)
   obtain ⟨l,rfl⟩:=(ih 3 d r3 (by rw [hg];rfl) rfl).2 hd
   exact ⟨.mk n s w l,by rw [exr_eq];rfl⟩
  ·rintro rfl;rw [g] at hl;cases hl
theorem ex_of {row : List PV} (h : HasTy Try.prog 29 row) : ∃ f,row = exr f:=(ex_aux h).1 rfl
end Go.Proofs.Ytbimioonhfhflaa
