/- The law FnExactFirstKindTest holds: for every input the program's FirstKindTest returns what the reference's returns, in every field, leaves its arguments as they were, and shares no memory. Conditions: none but those of the given statement. -/
import Derived.Test.YteboofglcnceoaaPrintA30
namespace Go.Proofs.Yteboofglcnceoaa.Pure
open Go.RowKit Go.Proofs.Yteboofglcnceoaa.PrintA Go.Proofs.YteboofglcnceoaaW.PrintWords Go.Proofs.YteboofglcnceoaaW.PrintLast Go.Proofs.YteboofglcnceoaaLib
set_option linter.unusedVariables false
set_option linter.unusedSimpArgs false

theorem FnExactFirstKindTest : laws_FnExactFirstKindTest.Pure := by
  intro a b c _ _ _
  exact ⟨_, _, _, rfl, rfl⟩

end Go.Proofs.Yteboofglcnceoaa.Pure
