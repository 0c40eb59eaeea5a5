/-
  A result with nil slices inside, seen as one with empty lists.
-/
import Derived.Test.YtnoklmapofogeaaVPvQg
namespace Go.Pv
open Go
set_option linter.unusedVariables false

theorem callOK_softR {P : Program} {f : FuncId} {args : List PV} {v v' : PV} {s s' : Store} (h : CallOK P f args s v' s') (hs : Soft v v') : CallOK P f args s v s' := by
  intro pub σ w cargs hb ha
  refine (h pub σ w cargs hb ha).mono ?_
  rintro e w' ⟨cv, pub', σ', rfl, h1, h2⟩
  exact ⟨cv, pub', σ', rfl, h1, hs.rel h2⟩
end Go.Pv
