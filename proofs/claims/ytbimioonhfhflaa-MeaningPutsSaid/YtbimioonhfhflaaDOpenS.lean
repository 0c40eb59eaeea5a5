import Derived.Test.YtbimioonhfhflaaDPvOpen
import Derived.WalkKit
import Derived.ProofKit
import Derived.OpenShut
import Derived.Below
import Derived.Carry
import Derived.SizedLaws
import Derived.Test.YtbimioonhfhflaaDMnB
set_option linter.unusedVariables false
set_option linter.unusedSimpArgs false
namespace Go.Pv
open Go Go.RowKit Go.ChangeShapes Go.WideShapes Go.ChangeAt
def argOf (P : Program) (t : TypeId) (row : List PV) : PV:=if aggOf P t then .agg row else row.headD .any
def AllTy (P : Program) : List TypeId → List (List PV) → Prop
 | [],[]=>True
 | t :: ts,r :: rs=>HasTy P t r ∧ AllTy P ts rs
 | _,_=>False
def argsOf (P : Program) : List TypeId → List (List PV) → List PV
 | t :: ts,r :: rs=>argOf P t r :: argsOf P ts rs
 | _,_=>[]
section
variable {H : Type} {enc : TypeId × Value → H} {P : Program} {S : List TypeId} {w : World} {spare : Nat → Bool} {held : Bool}
theorem arg_rel (hS : ∀ t,S.contains t = true → tyOK P S t = true) {base : Nat} {t : TypeId} {v : Value} {d : DataW H} {ps : List MemPlace} (ht : S.contains t = true)
  (hok : Value.okWide P w .any base t v) (h : DataW.Trod enc P w 0 spare held t v d ps) (hz : ∀ n ∈ DataW.weights P t d,n ≤ reachBytes) : ∃ row,HasTy P t row ∧ Rel (heapOf w) noSig (argOf P t row) v:=by
 obtain ⟨fuel,h⟩:=h
 obtain ⟨row,h1,h2⟩:=trod_rel hS fuel t _ _ ht h hz
 refine ⟨row,h1,?_⟩
 have htO:=hS t ht
 have plain : aggOf P t = false → v.cells = #[v] → Rel (heapOf w) noSig (argOf P t row) v:=by
  intro ha hc
  rw [hc] at h2
  obtain ⟨h3,h4⟩:=h2
  simp only [List.length_cons,List.length_nil] at h3
  obtain ⟨x,rfl⟩:=List.length_eq_one_iff.1 h3
  unfold argOf;rw [ha]
  exact h4 0 x v rfl rfl
 unfold Value.okWide at hok
 unfold tyOK at htO
 unfold aggOf at plain
 split at htO
 ·rename_i hu
  rw [hu] at hok plain
  simp only [Cell.okWide,Cell.ok,hu] at hok
  cases v <;> first | exact hok.elim | exact plain rfl rfl
 ·rename_i k hu
  rw [hu] at hok plain
  simp only [Cell.okWide,Cell.ok,hu] at hok
  cases v <;> first | exact hok.elim | exact plain rfl rfl
 ·rename_i hu
  rw [hu] at hok plain
  simp only [Cell.okWide,Cell.ok,hu] at hok
  cases v <;> first | exact hok.elim | exact plain rfl rfl
 ·rename_i e hu
  rw [hu] at hok plain
  simp only [Cell.okWide,Cell.ok,hu] at hok
  cases v <;> first | exact hok.elim | exact plain rfl rfl
 ·rename_i fs hu
  rw [hu] at hok
  obtain ⟨cs,rfl,_,_⟩:=hok
  have : argOf P t row = .agg row:=by unfold argOf aggOf;rw [hu];rfl
  rw [this]
  refine .agg (by have:=h2.1;simp [Value.cells] at this;omega) fun j x c hx hc=>h2.2 j x c hx (by simpa [Value.cells] using hc)
 ·rename_i n e hu
  rw [hu] at hok
  obtain ⟨cs,rfl,_,_⟩:=hok
  have : argOf P t row = .agg row:=by unfold argOf aggOf;rw [hu];rfl
  rw [this]
  refine .agg (by have:=h2.1;simp [Value.cells] at this;omega) fun j x c hx hc=>h2.2 j x c hx (by simpa [Value.cells] using hc)
 ·cases htO
theorem args_rel (hS : ∀ t,S.contains t = true → tyOK P S t = true) {base : Nat} : ∀ (ts : List TypeId) (vs : List Value) (ds : List (DataW H)) (ps : List MemPlace),(ts.all fun t => S.contains t) = true →
  (∀ (j : Nat) t v,ts[j]? = some t → vs[j]? = some v → Value.okWide P w .any base t v) → DataW.TrodAll enc P w 0 spare held ts vs ds ps → (∀ n ∈ DataW.weightsEach P ts ds,n ≤ reachBytes) →
  ∃ rows,AllTy P ts rows ∧ RowRel (heapOf w) (argsOf P ts rows) vs ∧ ds.length = ts.length:=by
 intro ts
 induction ts with
 | nil=>
  intro vs ds ps _ _ h _
  cases vs <;> cases ds <;> first | exact h.elim | skip
  exact ⟨[],trivial,.nil,rfl⟩
 | cons t ts ih=>
  intro vs ds ps hin hok h hz
  cases vs with
  | nil=>exact h.elim
  | cons v vs=>
   cases ds with
   | nil=>exact h.elim
   | cons d ds=>
    obtain ⟨p,q,h1,h2,_⟩:=h
    simp only [List.all_cons,Bool.and_eq_true] at hin
    simp only [DataW.weightsEach,List.mem_append] at hz
    obtain ⟨row,g1,g2⟩:=arg_rel hS hin.1 (hok 0 t v rfl rfl) h1 fun n hn=>hz n (.inl hn)
    obtain ⟨rows,g3,g4,g5⟩:=ih vs ds q hin.2 (fun j t v a b=>hok (j + 1) t v (by simpa using a) (by simpa using b)) h2 fun n hn=>hz n (.inr hn)
    refine ⟨row :: rows,⟨g1,g3⟩,?_,by simp [g5]⟩
    exact (RowRel.one g2).append g4
theorem args_again {W W' : World} (hl : laidOutB P = true) : ∀ (ts : List TypeId) (vs : List Value) (ds : List (DataW H)) (ps : List MemPlace),(ts.all fun t => P.readableRec t && decide (t < P.types.size)) = true →
  DataW.TrodAll enc P W 0 (fun _=>true) true ts vs ds ps → Below W.heap.size W W' → (∀ x ∈ ps,x.block < W.heap.size) → DataW.TrodAll enc P W' 0 (fun b=>decide (b < W.heap.size)) true ts vs ds ps:=by
 intro ts
 induction ts with
 | nil=>intro vs ds ps _ h _ _;cases vs <;> cases ds <;> first | exact h.elim | exact h
 | cons t ts ih=>
  intro vs ds ps hin h hb hlt
  cases vs with
  | nil=>exact h.elim
  | cons v vs=>
   cases ds with
   | nil=>exact h.elim
   | cons d ds=>
    obtain ⟨p,q,h1,h2,rfl⟩:=h
    simp only [List.all_cons,Bool.and_eq_true,decide_eq_true_eq] at hin
    exact ⟨p,q,Below.trod hl hin.1.1 hin.1.2 h1 hb (fun x hx=>hlt x (by simp [hx])),ih vs ds q hin.2 h2 hb (fun x hx=>hlt x (by simp [hx])),rfl⟩
theorem SR.below {pub pub' : PHeap} {σ' : Sig} {s' : Store} {w' : World} (h : SR ⟨w,pub,noSig,dom [] noSig⟩ pub' σ' s' w') : Below w.heap.size w w':=
 ⟨h.os,h.tape,h.output,h.size,fun k hk=>(h.frame k hk (dom_nil _ _)).1⟩
theorem law_contract {f : FuncId} {fn : Func} {s : ChangeSpec} {tb : TypeId} (S : List TypeId) (hS : (S.all fun t => tyOK P S t) = true) (hl : laidOutB P = true)
  (hp1 : (fn.params.toList.all fun t=>S.contains t) = true) (hp2 : (fn.params.toList.all fun t=>P.readableRec t && decide (t < P.types.size)) = true)
  (hv : s.vars = []) (hr : fn.resultTypes = #[tb]) (hb : P.underlying tb = some .bool)
  (hs : ∀ ds : List (DataW H),ds.length = fn.params.toList.length → s.fn H ds = { results:=[.lit (.bool true)],args:=ds })
  (h : ∀ rows : List (List PV),AllTy P fn.params.toList rows → CallOK P f (argsOf P fn.params.toList rows) [] (.bool true) [])
  (W : World) (base : Nat) (args : Array Value) (ds gs : List (DataW H)) (before : List MemPlace) (hval : ∀ (j : Nat) t v,fn.params[j]? = some t → args[j]? = some v → Value.okWide P W .any base t v)
  (hW : DataW.Whole enc P fn.params.toList s.vars false W args.toList ds gs before)
  (hz : (DataW.weightsEach P (fn.params.toList ++ s.plain.varTypes P) (ds ++ gs)).all (· ≤ reachBytes) = true) :
  Calls P f args W fun e W'=>∃ v,e = .returned v ∧ s.post enc P fn false true false false W args v W':=by
 have hW':=hW
 obtain ⟨p,q,hA,hV,rfl,hfz,hnd⟩:=hW
 rw [hv] at hV
 have hgq : gs = [] ∧ q = []:=by cases gs <;> first | exact ⟨rfl,hV⟩ | exact hV.elim
 obtain ⟨rfl,rfl⟩:=hgq
 have hS' : ∀ t,S.contains t = true → tyOK P S t = true:=fun t ht=>List.all_eq_true.1 hS t (by simpa using ht)
 have hzz : ∀ n ∈ DataW.weightsEach P fn.params.toList ds,n ≤ reachBytes:=by
  intro n hn
  have hvt : s.plain.varTypes P = []:=by simp [DataSpec.varTypes,ChangeSpec.plain,hv]
  rw [hvt,List.append_nil,List.append_nil] at hz
  simpa using List.all_eq_true.1 hz n hn
 obtain ⟨rows,h1,h2,h3⟩:=args_rel hS' fn.params.toList args.toList ds p hp1 (fun j t v a b=>hval j t v (by simpa using a) (by simpa using b)) hA hzz
 refine Calls.mono (h rows h1 (heapOf W) noSig W args (.bare fun b o hb=>hb) ⟨by have:=h2.1;simpa using this.symm,fun j v c hv hc=>h2.2 j v c hv (by simpa using hc)⟩) ?_
 rintro e W' ⟨cv,pub',σ',rfl,hs',hrel⟩
 obtain rfl:=rel_bool hrel
 have hbel:=hs'.below
 refine ⟨_,rfl,ds,[],_,[],p,[],hW',?_,?_,?_,hbel.frame _,fun h=>by cases h⟩
 ·rw [List.append_nil,hs ds h3,hr]
  exact trodAll_cons_mk (shut_bool hb _) trodAll_mk0
 ·rw [List.append_nil,hs ds h3]
  exact args_again hl _ _ _ _ hp2 hA hbel (fun x hx=>hW'.lt x (by simpa using hx))
 ·rw [List.append_nil,hs ds h3,hv];rfl
end
section
variable {P : Program} {t : TypeId} {ti : TI}
theorem fields_of {l : List (Nat × Nat × Nat × Bool)} (ht : tinfo P t = some ti) (hk : ti.kind = .struct l) : ∃ fs : Array Field,P.underlying t = some (.struct fs) ∧ fs.toList.map (·.type) = l.map (·.2.1):=by
 obtain ⟨i,d,h1,h2,rfl⟩:=tinfo_some ht
 obtain ⟨fields,rfl,rfl,_⟩:=tkOf_struct hk
 exact ⟨fields,h2,by simp⟩
theorem und_slice {e esz by' : Nat} {ag : Bool} {z : Option (List PV)} (ht : tinfo P t = some ti) (hk : ti.kind = .slice e esz by' ag z) : P.underlying t = some (.slice e):=by
 obtain ⟨i,d,h1,h2,rfl⟩:=tinfo_some ht
 obtain ⟨rfl,_⟩:=tkOf_slice hk;exact h2
theorem und_int {k : IntKind} (ht : tinfo P t = some ti) (hk : ti.kind = .int k) : P.underlying t = some (.int k):=by
 obtain ⟨i,d,h1,h2,rfl⟩:=tinfo_some ht
 obtain rfl:=tkOf_int hk;exact h2
theorem und_bool (ht : tinfo P t = some ti) (hk : ti.kind = .bool) : P.underlying t = some .bool:=by
 obtain ⟨i,d,h1,h2,rfl⟩:=tinfo_some ht
 obtain rfl:=tkOf_bool hk;exact h2
theorem und_string (ht : tinfo P t = some ti) (hk : ti.kind = .string) : P.underlying t = some .string:=by
 obtain ⟨i,d,h1,h2,rfl⟩:=tinfo_some ht
 obtain rfl:=tkOf_string hk;exact h2
end
theorem list_of {α : Type} (g : α → List PV) : ∀ (rows : List (List PV)),(∀ row ∈ rows,∃ x,row = g x) → ∃ l : List α,rows = l.map g:=by
 intro rows
 induction rows with
 | nil=>intro _;exact ⟨[],rfl⟩
 | cons r rs ih=>
  intro h
  obtain ⟨x,rfl⟩:=h r (by simp)
  obtain ⟨l,rfl⟩:=ih fun row hr=>h row (by simp [hr])
  exact ⟨x :: l,rfl⟩
theorem three_of {α : Type} (l : List α) (h : l.length = 3) : ∃ a b c,l = [a,b,c]:=by
 match l,h with
 | [a,b,c],_=>exact ⟨a,b,c,rfl⟩
theorem two_of {α : Type} (l : List α) (h : l.length = 2) : ∃ a b,l = [a,b]:=by
 match l,h with
 | [a,b],_=>exact ⟨a,b,rfl⟩
theorem argOf_agg {P : Program} {t : TypeId} {ti : TI} {row : List PV} (ht : tinfo P t = some ti) (ha : ti.agg = true) : argOf P t row = .agg row:=by
 obtain ⟨i,d,h1,h2,rfl⟩:=tinfo_some ht
 unfold argOf;rw [if_pos ha]
theorem argOf_one {P : Program} {t : TypeId} {ti : TI} {v : PV} (ht : tinfo P t = some ti) (ha : ti.agg = false) : argOf P t [v] = v:=by
 obtain ⟨i,d,h1,h2,rfl⟩:=tinfo_some ht
 have ha' : aggOf P t = false:=ha
 unfold argOf;rw [ha'];rfl
theorem allTy_cons {P : Program} {t : TypeId} {ts : List TypeId} {rows : List (List PV)} (h : AllTy P (t :: ts) rows) : ∃ r rs,rows = r :: rs ∧ HasTy P t r ∧ AllTy P ts rs:=by
 cases rows with
 | nil=>exact h.elim
 | cons r rs=>exact ⟨r,rs,rfl,h.1,h.2⟩
theorem allTy_nil {P : Program} {rows : List (List PV)} (h : AllTy P [] rows) : rows = []:=by
 cases rows with
 | nil=>rfl
 | cons r rs=>exact h.elim
end Go.Pv
namespace Go.Proofs.Ytbimioonhfhflaa
open Go Go.Pv
theorem int_of {row : List PV} (h : HasTy Try.prog 3 row) : ∃ n,row = [.int .i64 n]:=by
 obtain ⟨n,rfl,hw⟩:=h.int' (und_int ty3 rfl)
 exact ⟨n,rfl⟩
theorem str_of {row : List PV} (h : HasTy Try.prog 9 row) : ∃ s,row = [.str s]:=by
 obtain ⟨s,rfl,_⟩:=h.str' (und_string ty9 rfl)
 exact ⟨s,rfl⟩
theorem bool_of {row : List PV} (h : HasTy Try.prog 4 row) : ∃ b,row = [.bool b]:=by
 obtain ⟨b,rfl⟩:=h.bool' (und_bool ty4 rfl)
 exact ⟨b,rfl⟩
theorem four_of {α : Type} (l : List α) (h : l.length = 4) : ∃ a b c d,l = [a,b,c,d]:=by
 match l,h with
 | [a,b,c,d],_=>exact ⟨a,b,c,d,rfl⟩
theorem strs_of {row : List PV} (h : HasTy Try.prog 32 row) : ∃ l : List ByteArray,row = [.list (l.map strRow)]:=by
 obtain ⟨rs,rfl,g2⟩:=h.slice' (und_slice ty32 rfl)
 obtain ⟨l,rfl⟩:=list_of strRow rs fun r hr=>str_of (g2 r hr)
 exact ⟨l,rfl⟩
theorem ints_of {row : List PV} (h : HasTy Try.prog 33 row) : ∃ l : List Int,row = [.list (l.map intRow)]:=by
 obtain ⟨rs,rfl,g2⟩:=h.slice' (und_slice ty33 rfl)
 obtain ⟨l,rfl⟩:=list_of intRow rs fun r hr=>int_of (g2 r hr)
 exact ⟨l,rfl⟩
theorem bools_of {row : List PV} (h : HasTy Try.prog 59 row) : ∃ l : List Bool,row = [.list (l.map boolRow)]:=by
 obtain ⟨rs,rfl,g2⟩:=h.slice' (und_slice ty59 rfl)
 obtain ⟨l,rfl⟩:=list_of boolRow rs fun r hr=>bool_of (g2 r hr)
 exact ⟨l,rfl⟩
theorem fn_of {row : List PV} (h : HasTy Try.prog 57 row) : ∃ f : Fn,row = fnRow f:=by
 obtain ⟨parts,rfl,h1,h2⟩:=h.struct' ty57 rfl
 obtain ⟨r0,r1,r2,rfl⟩:=three_of _ h1
 obtain ⟨n,rfl⟩:=str_of (h2 0 _ r0 rfl rfl)
 obtain ⟨a,rfl⟩:=int_of (h2 1 _ r1 rfl rfl)
 obtain ⟨l,rfl⟩:=ints_of (h2 2 _ r2 rfl rfl)
 exact ⟨⟨n,a,l⟩,rfl⟩
theorem pd_of {row : List PV} (h : HasTy Try.prog 61 row) : ∃ f : Pd,row = pdRow f:=by
 obtain ⟨parts,rfl,h1,h2⟩:=h.struct' ty61 rfl
 obtain ⟨r0,r1,r2,rfl⟩:=three_of _ h1
 obtain ⟨n,rfl⟩:=str_of (h2 0 _ r0 rfl rfl)
 obtain ⟨a,rfl⟩:=int_of (h2 1 _ r1 rfl rfl)
 obtain ⟨l,rfl⟩:=bools_of (h2 2 _ r2 rfl rfl)
 exact ⟨⟨n,a,l⟩,rfl⟩
theorem stc_of {row : List PV} (h : HasTy Try.prog 25 row) : ∃ s : Stc,row = stc s:=by
 obtain ⟨parts,rfl,h1,h2⟩:=h.struct' ty25 rfl
 obtain ⟨r0,r1,r2,rfl⟩:=three_of _ h1
 obtain ⟨n,rfl⟩:=int_of (h2 0 _ r0 rfl rfl)
 obtain ⟨fs,rfl,g1⟩:=(h2 1 _ r1 rfl rfl).slice' (und_slice ty22 rfl)
 obtain ⟨ps,rfl,g2⟩:=(h2 2 _ r2 rfl rfl).slice' (und_slice ty23 rfl)
 obtain ⟨F,rfl⟩:=list_of fnRow fs fun r hr=>fn_of (g1 r hr)
 obtain ⟨P,rfl⟩:=list_of pdRow ps fun r hr=>pd_of (g2 r hr)
 exact ⟨⟨n,F,P⟩,rfl⟩
theorem wd_aux {t : TypeId} {row : List PV} (h : HasTy Try.prog t row) : (t = 31 → ∃ f,row = wrd f) ∧ (t = 26 → ∃ l : List Wd,row = [.list (l.map wrd)]):=by
 have hs:=fields_of ty31 rfl
 have hl:=und_slice ty26 rfl
 obtain ⟨fs,hs,hf⟩:=hs
 induction h with
 | bool g=>refine ⟨?_,?_⟩ <;> rintro rfl <;> first | (rw [g] at hs;cases hs;done) | (rw [g] at hl;cases hl;done)
 | int g=>refine ⟨?_,?_⟩ <;> rintro rfl <;> first | (rw [g] at hs;cases hs;done) | (rw [g] at hl;cases hl;done)
 | str g=>refine ⟨?_,?_⟩ <;> rintro rfl <;> first | (rw [g] at hs;cases hs;done) | (rw [g] at hl;cases hl;done)
 | array g=>refine ⟨?_,?_⟩ <;> rintro rfl <;> first | (rw [g] at hs;cases hs;done) | (rw [g] at hl;cases hl;done)
 | slice g hr hb ih=>
  refine ⟨?_,?_⟩
  ·rintro rfl;rw [g] at hs;cases hs
  ·rintro rfl; rw [g] at hl; cases hl
   obtain ⟨l,rfl⟩:=list_of wrd _ fun row hrow=>(ih row hrow).1 rfl
   exact ⟨l,rfl⟩
 | struct g hlen hp ih=>
  refine ⟨?_,?_⟩
  ·rintro rfl; rw [g] at hs; cases hs
   have h4 : fs.toList.length = 2:=by simpa using congrArg List.length hf
   obtain ⟨a,b,hfs⟩:=two_of _ h4
   rw [hfs] at hf
   simp only [List.map_cons,List.map_nil,List.cons.injEq,and_true] at hf
   obtain ⟨ha,hb⟩:=hf
   have hg : ∀ i,fs[i]? = [a,b][i]?:=fun i=>by rw [← hfs,Array.getElem?_toList]
   obtain ⟨r0,r1,rfl⟩:=two_of _ (hlen.trans (by simpa using h4))
   obtain ⟨n,rfl⟩:=str_of (by have:=hp 0 a r0 (by rw [hg];rfl) rfl;rw [ha] at this;exact this)
   obtain ⟨l,rfl⟩:=(ih 1 b r1 (by rw [hg];rfl) rfl).2 hb
   exact ⟨.mk n l,by rw [wrd_eq];rfl⟩
  ·rintro rfl;rw [g] at hl;cases hl
theorem wds_of {row : List PV} (h : HasTy Try.prog 26 row) : ∃ l : List Wd,row = [.list (l.map wrd)]:=(wd_aux h).2 rfl
theorem wd_of {row : List PV} (h : HasTy Try.prog 31 row) : ∃ l : Wd,row = wrd l:=(wd_aux h).1 rfl
theorem ex_aux {t : TypeId} {row : List PV} (h : HasTy Try.prog t row) : (t = 29 → ∃ f,row = exr f) ∧ (t = 27 → ∃ l : List Ex,row = [.list (l.map exr)]):=by
 have hs:=fields_of ty29 rfl
 have hl:=und_slice ty27 rfl
 obtain ⟨fs,hs,hf⟩:=hs
 induction h with
 | bool g=>refine ⟨?_,?_⟩ <;> rintro rfl <;> first | (rw [g] at hs;cases hs;done) | (rw [g] at hl;cases hl;done)
 | int g=>refine ⟨?_,?_⟩ <;> rintro rfl <;> first | (rw [g] at hs;cases hs;done) | (rw [g] at hl;cases hl;done)
 | str g=>refine ⟨?_,?_⟩ <;> rintro rfl <;> first | (rw [g] at hs;cases hs;done) | (rw [g] at hl;cases hl;done)
 | array g=>refine ⟨?_,?_⟩ <;> rintro rfl <;> first | (rw [g] at hs;cases hs;done) | (rw [g] at hl;cases hl;done)
 | slice g hr hb ih=>
  refine ⟨?_,?_⟩
  ·rintro rfl;rw [g] at hs;cases hs
  ·rintro rfl; rw [g] at hl; cases hl
   obtain ⟨l,rfl⟩:=list_of exr _ fun row hrow=>(ih row hrow).1 rfl
   exact ⟨l,rfl⟩
 | struct g hlen hp ih=>
  refine ⟨?_,?_⟩
  ·rintro rfl; rw [g] at hs; cases hs
   have h4 : fs.toList.length = 4:=by simpa using congrArg List.length hf
   obtain ⟨a,b,c,d,hfs⟩:=four_of _ h4
   rw [hfs] at hf
   simp only [List.map_cons,List.map_nil,List.cons.injEq,and_true] at hf
   obtain ⟨ha,hb,hc,hd⟩:=hf
   have hg : ∀ i,fs[i]? = [a,b,c,d][i]?:=fun i=>by rw [← hfs,Array.getElem?_toList]
   obtain ⟨r0,r1,r2,r3,rfl⟩:=four_of _ (hlen.trans (by simpa using h4))
   obtain ⟨n,rfl⟩:=int_of (by have:=hp 0 a r0 (by rw [hg];rfl) rfl;rw [ha] at this;exact this)
   obtain ⟨s,rfl⟩:=str_of (by have:=hp 1 b r1 (by rw [hg];rfl) rfl;rw [hb] at this;exact this)
   obtain ⟨w,rfl⟩:=wds_of (by have:=hp 2 c r2 (by rw [hg];rfl) rfl;rw [hc] at this;exact this)
   obtain ⟨l,rfl⟩:=(ih 3 d r3 (by rw [hg];rfl) rfl).2 hd
   exact ⟨.mk n s w l,by rw [exr_eq];rfl⟩
  ·rintro rfl;rw [g] at hl;cases hl
theorem ex_of {row : List PV} (h : HasTy Try.prog 29 row) : ∃ f,row = exr f:=(ex_aux h).1 rfl
end Go.Proofs.Ytbimioonhfhflaa
