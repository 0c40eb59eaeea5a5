/-
  Values seen as data: tables (slices whose rows are slices of the call's own) at the loops' heads.
-/
import Derived.Test.YtnoklmapofogeaaVPvQg
namespace Go.Pv
open Go
set_option linter.unusedVariables false
set_option linter.unusedSimpArgs false

/-! the gathering -/
section
variable {C : WC} {e : AE} {s S : Store} {q : AE → Store → Prop} {t c z k zk b : Nat} {L ids lens ρ0 : List Nat} {xss : List (List (List PV))}
/-! the same, in the order in which what is asked can be found -/
end
@[simp] theorem frm_ge0 {f : Fm} (h : 0 < (frm f).length) : (frm f)[0] = .int .i64 f.kind := Option.some.inj ((List.getElem?_eq_getElem h).symm.trans (frm_get0 f))
@[simp] theorem frm_ge1 {f : Fm} (h : 1 < (frm f).length) : (frm f)[1] = .str f.name := Option.some.inj ((List.getElem?_eq_getElem h).symm.trans (frm_get1 f))
@[simp] theorem frm_ge2 {f : Fm} (h : 2 < (frm f).length) : (frm f)[2] = .list (f.kids.map frm) := Option.some.inj ((List.getElem?_eq_getElem h).symm.trans (frm_get2 f))
attribute [simp] List.set_append_left List.set_append_right
/-! a table that is told as plain data -/
end Go.Pv
