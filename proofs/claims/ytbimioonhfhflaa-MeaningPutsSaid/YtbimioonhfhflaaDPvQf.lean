import Derived.Test.YtbimioonhfhflaaDPvQe
set_option linter.unusedVariables false
set_option linter.unusedSimpArgs false
namespace Go.Pv
open Go
def flatV : PV → Bool
 | .mapv _=>false
 | .sl _ _ _=>false
 | .ptr _ _ _=>false
 | .agg _=>false
 | .tuple _=>false
 | .fn _ _ _=>false
 | .iface _ _=>false
 | _=>true
class FlatRow {α : Type} (g : α → List PV) : Prop where
 flat : ∀ x,(g x).all flatV = true
instance {α β : Type} {g : β → List PV} [FlatRow g] {h : α → β} : FlatRow (g ∘ h):=⟨fun x=>FlatRow.flat (g:=g) (h x)⟩
theorem flat_ren {ρ : List Nat} {n : Nat} {v : PV} (h : flatV v = true) : renN ρ n v = v:=by
 cases v <;> first | (cases h;done) | simp
theorem flat_deref {s : Store} {n : Nat} {v : PV} (h : flatV v = true) : deref s n v = v:=by
 cases v <;> first | (cases h;done) | simp
theorem flat_refs {n : Nat} {v : PV} (h : flatV v = true) : refsN n v = []:=by
 cases v <;> first | (cases h;done) | simp
theorem flat_closed {v : PV} (h : flatV v = true) : Closed v:=fun pub σ c hr=>by
 cases v <;> first | (cases h;done) | (cases hr <;> constructor <;> assumption)
@[simp] theorem row_closed {α : Type} {g : α → List PV} [FlatRow g] (x : α) : (∀ c ∈ g x,Closed c) = True:=eq_true fun c hc=>flat_closed (List.all_eq_true.1 (FlatRow.flat (g:=g) x) c hc)
theorem map_id_of {f : PV → PV} {l : List PV} (h : ∀ v,flatV v = true → f v = v) (hl : l.all flatV = true) : l.map f = l:=by
 induction l with
 | nil=>rfl
 | cons a r ih=>
  simp only [List.all_cons,Bool.and_eq_true] at hl
  rw [List.map_cons,h a hl.1,ih hl.2]
section
variable {α : Type} {g : α → List PV} [FlatRow g] {ρ : List Nat} {n : Nat} {s : Store}
@[simp] theorem comp_ren : List.map (renN ρ n) ∘ g = g:=by
 funext x;exact map_id_of (fun v=>flat_ren) (FlatRow.flat x)
@[simp] theorem comp_deref : List.map (deref s n) ∘ g = g:=by
 funext x;exact map_id_of (fun v=>flat_deref) (FlatRow.flat x)
end
class FlatRs (q : List (List PV)) : Prop where
 flat : ∀ row ∈ q,row.all flatV = true
instance {α : Type} {g : α → List PV} [FlatRow g] {l : List α} : FlatRs (l.map g):=⟨fun row h=>by obtain ⟨a,_,rfl⟩:=List.mem_map.1 h;exact FlatRow.flat a⟩
instance {q q' : List (List PV)} [h : FlatRs q] [h' : FlatRs q'] : FlatRs (q ++ q'):=⟨fun row hr=>(List.mem_append.1 hr).elim (h.flat row) (h'.flat row)⟩
theorem FlatRs.cons {row : List PV} {q : List (List PV)} (h : row.all flatV = true) (g : FlatRs q) : FlatRs (row :: q):=⟨fun r hr=>by
 rcases List.mem_cons.1 hr with rfl | hr
 ·exact h
 ·exact g.flat r hr⟩
instance : FlatRs []:=⟨fun r hr=>by cases hr⟩
instance {b : ByteArray} {q : List (List PV)} [g : FlatRs q] : FlatRs ([PV.str b] :: q):=.cons rfl g
instance {b : Bool} {q : List (List PV)} [g : FlatRs q] : FlatRs ([PV.bool b] :: q):=.cons rfl g
instance {k : IntKind} {i : Int} {q : List (List PV)} [g : FlatRs q] : FlatRs ([PV.int k i] :: q):=.cons rfl g
instance {n : Nat} {k : IntKind} {i : Int} : FlatRs (List.replicate n [PV.int k i]):=⟨fun row hr=>by rw [(List.mem_replicate.1 hr).2];rfl⟩
instance {n : Nat} {b : ByteArray} : FlatRs (List.replicate n [PV.str b]):=⟨fun row hr=>by rw [(List.mem_replicate.1 hr).2];rfl⟩
instance {n : Nat} {b : Bool} : FlatRs (List.replicate n [PV.bool b]):=⟨fun row hr=>by rw [(List.mem_replicate.1 hr).2];rfl⟩
instance {n : Nat} {q : List (List PV)} [h : FlatRs q] : FlatRs (q.take n):=⟨fun row hr=>h.flat row (List.mem_of_mem_take hr)⟩
instance {n : Nat} {q : List (List PV)} [h : FlatRs q] : FlatRs (q.drop n):=⟨fun row hr=>h.flat row (List.mem_of_mem_drop hr)⟩
@[simp] theorem growObj_flat {n : Nat} {q : List (List PV)} [h : FlatRs q] : growObj (some (.rows n q)) = []:=by
 cases q with
 | nil=>rfl
 | cons row r=>
  have hf:=h.flat row List.mem_cons_self
  show row.flatMap (refsN 4) = []
  rw [List.flatMap_eq_nil_iff]
  exact fun v hv=>flat_refs (List.all_eq_true.1 hf v hv)
@[simp] theorem take_map_len {α : Type} (l : List α) (f : α → List PV) : (l.map f).take l.length = l.map f:=List.take_of_length_le (by simp)
section
variable {C : WC} {f : Operand} {args : Array Operand} {d : Option Tmp} {fid : FuncId} {vs : List PV} {e : AE} {s s2 : Store} {K : KS} {v : PV} {ops : List LOp} {c : XC} {i : Nat}
theorem X_at {C : WC} {e : AE} {s : Store} {K : KS} {x y : XC} (h : x = y) : X C x e s K = X C y e s K:=by rw [h]
theorem at2 {Q : AE → Store → Prop} {e e' : AE} {s s' : Store} (h : Q e s) (he : e = e') (hs : s = s') : Q e' s':=by subst he hs;exact h
theorem W_of (h : ∀ Q : AE → Store → Prop,(∀ e s,X C c e s (.round i Q (.block i K)) → Q e s) → Q e s) : W C i c K e s:=h
theorem CL.of [EnT C.P fid] (hc : CallOK C.P fid vs s v s2) (hk : O C .pl ops (updA e d v) s2 K) : CL C f args d (some (fid,vs)) ops e s K:=
 fun hr=>⟨e,s,fid,vs,View.refl _ _,hr.symm,EnT.h,.inl ⟨v,s2,hc,hk⟩⟩
theorem CL.pan [EnT C.P fid] {v : Value} (hc : CallPan C.P fid vs s v s2) (hk : E C K (pan1 v) e s2) : CL C f args d (some (fid,vs)) ops e s K:=
 fun hr=>⟨e,s,fid,vs,View.refl _ _,hr.symm,EnT.h,.inr ⟨v,s2,hc,hk⟩⟩
theorem CD.of [EnT C.P fid] (hc : CallOK C.P fid vs s v s2) (hk : O C .dr ops (updA e d v) s2 K) : CD C d (some (fid,vs)) ops e s K:=
 ⟨fid,vs,v,s2,rfl,EnT.h,hc,hk⟩
theorem CM.of [EnT C.P fid] {lo : Option LOp} {n : Nat} {t : Store} (hc : ∀ s,CallOK C.P fid vs s v s) (hk : O C (.mx lo n t) ops (updA e d v) s K) : CM C lo n t d (some (fid,vs)) ops e s K:=
 ⟨fid,vs,v,rfl,EnT.h,fun t=>hc _,hk⟩
theorem CL.look [EnT C.P fid] (n : Nat) (hc : CallOK C.P fid (vs.map (deref s n)) [] v []) (hv : Flat v) (hk : O C .pl ops (updA e d v) s K) : CL C f args d (some (fid,vs)) ops e s K:=
 .of (CallOK.borrow n hc hv) hk
theorem CL.give (F : List Nat) {r : Option (FuncId × List PV)} (h : CL C f args d (fnArgs f args (envOf (withFrz F e s).1)) ops (withFrz F e s).1 (withFrz F e s).2 K) : CL C f args d r ops e s K:=by
 intro hr
 obtain ⟨e1,s1,fid,vs,h1,h2⟩:=h rfl
 exact ⟨e1,s1,fid,vs,View.trans (withFrz_view F e) h1,h2⟩
theorem callX {P : Program} {N m : Nat} {f : FuncId} {fn : Func} {c : Code} {args : List PV} {v : PV} (C : WC) (xc : XC) (hP : C.P = P) (hm : C.m = 0) (hx : lt c = xc) (hf : P.funcs[f]? = some fn) (hb : fn.body = some c) (hN : fn.ntmps = N) (hlen : args.length ≤ N)
  (hmix : P.follows .mixedOrders = true) (hchk : chkC N C.A c = true) (h : X C xc (argsA 0 args) [] (.fin fn.results.toList fun v1 s1=>deref s1 6 v1 = v)) : CallOK P f args [] v []:=by
 subst hP hx
 refine callq_of C.A hf hb hN hlen hmix hchk ?_
 unfold X at h;rw [hm] at h;exact h
theorem callXS {P : Program} {N m : Nat} {s s' : Store} {f : FuncId} {fn : Func} {c : Code} {args : List PV} {v : PV} (C : WC) (xc : XC) (hP : C.P = P) (hm : C.m = s.length) (hx : lt c = xc) (hf : P.funcs[f]? = some fn) (hb : fn.body = some c) (hN : fn.ntmps = N) (hlen : args.length ≤ N)
  (hmix : P.follows .mixedOrders = true) (hchk : chkC N C.A c = true) (fin : PV → Store → Prop) (hfin : ∀ v1 s1,fin v1 s1 → RetView s.length v1 s1 v s') (h : X C xc (argsA 0 args) s (.fin fn.results.toList fin)) : CallOK P f args s v s':=by
 subst hP hx
 refine callq_S (A:=C.A) hf hb hN hlen hmix hchk fin hfin ?_
 unfold X at h;rw [hm] at h;exact h
end
@[simp] theorem wrap64 {n : Int} (h : -9223372036854775808 ≤ n) (h2 : n ≤ 9223372036854775807) : IntKind.i64.wrap n = n:=by
 simp only [IntKind.wrap,IntKind.bits,IntKind.signed];simp;omega
@[simp] theorem wrap8 {n : Int} (h : 0 ≤ n) (h2 : n ≤ 255) : IntKind.u8.wrap n = n:=by
 simp only [IntKind.wrap,IntKind.bits,IntKind.signed];simp;omega
@[simp] theorem wrap32 {n : Int} (h : -2147483648 ≤ n) (h2 : n ≤ 2147483647) : IntKind.i32.wrap n = n:=by
 simp only [IntKind.wrap,IntKind.bits,IntKind.signed];simp;omega
@[simp] theorem wrapu64 {n : Int} (h : 0 ≤ n) (h2 : n ≤ 18446744073709551615) : IntKind.u64.wrap n = n:=by
 simp only [IntKind.wrap,IntKind.bits,IntKind.signed];simp;omega
@[simp] theorem fm_kind {k : Int} {n : ByteArray} {l : List Fm} : (Fm.mk k n l).kind = k:=rfl
@[simp] theorem fm_name {k : Int} {n : ByteArray} {l : List Fm} : (Fm.mk k n l).name = n:=rfl
@[simp] theorem fm_kids {k : Int} {n : ByteArray} {l : List Fm} : (Fm.mk k n l).kids = l:=rfl
@[simp] theorem bytes_size {a : Array UInt8} : (ByteArray.mk a).size = a.size:=rfl
attribute [simp] ByteArray.size_append
attribute [simp] strRow boolRow intRow
instance : FlatRow strRow:=⟨fun x=>by simp [flatV]⟩
instance : FlatRow boolRow:=⟨fun x=>by simp [flatV]⟩
instance : FlatRow intRow:=⟨fun x=>by simp [flatV]⟩
end Go.Pv
