/- The law FnExactCountRounds holds: for every input the program's CountRounds returns what the reference's returns, in every field, leaves its arguments as they were, and shares no memory. Conditions: none but those of the given statement. -/
import Derived.Test.YtbiibhfcclfoiaaPrintA11
namespace Go.Proofs.Ytbiibhfcclfoiaa.Pure
open Go.RowKit Go.Proofs.Ytbiibhfcclfoiaa.PrintA Go.Proofs.YtbiibhfcclfoiaaW.PrintWords Go.Proofs.YtbiibhfcclfoiaaW.PrintLast Go.Proofs.YtbiibhfcclfoiaaLib
set_option linter.unusedVariables false
set_option linter.unusedSimpArgs false

theorem FnExactCountRounds : laws_FnExactCountRounds.Pure := by
  intro a b c d _ _ _ _
  exact ⟨_, _, rfl, rfl⟩

end Go.Proofs.Ytbiibhfcclfoiaa.Pure
