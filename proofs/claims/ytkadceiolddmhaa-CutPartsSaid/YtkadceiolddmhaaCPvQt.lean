import Derived.Test.YtkadceiolddmhaaCPvQg
set_option linter.unusedVariables false
set_option linter.unusedSimpArgs false
namespace Go.Pv
open Go
section
variable {C : WC} {e : AE} {s S : Store} {q : AE → Store → Prop} {t c z k zk b : Nat} {L ids lens ρ0 : List Nat} {xss : List (List (List PV))}
end
@[simp] theorem frm_ge0 {f : Fm} (h : 0 < (frm f).length) : (frm f)[0] = .int .i64 f.kind := Option.some.inj ((List.getElem?_eq_getElem h).symm.trans (frm_get0 f))
@[simp] theorem frm_ge1 {f : Fm} (h : 1 < (frm f).length) : (frm f)[1] = .str f.name := Option.some.inj ((List.getElem?_eq_getElem h).symm.trans (frm_get1 f))
@[simp] theorem frm_ge2 {f : Fm} (h : 2 < (frm f).length) : (frm f)[2] = .list (f.kids.map frm) := Option.some.inj ((List.getElem?_eq_getElem h).symm.trans (frm_get2 f))
attribute [simp] List.set_append_left List.set_append_right
end Go.Pv
