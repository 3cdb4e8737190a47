/- The law FnExactGainOfPlan holds: for every input the program's GainOfPlan returns what the reference's returns, in every field, leaves its arguments as they were, and shares no memory. Conditions: none but those of the given statement. -/
import Derived.Test.YtoldjcmokcgaiaaPrintA29
import Derived.Test.YtoldjcmokcgaiaaPrintA30
namespace Go.Proofs.Ytoldjcmokcgaiaa.Pure
open Go.RowKit Go.Proofs.Ytoldjcmokcgaiaa.PrintA Go.Proofs.YtoldjcmokcgaiaaW.PrintWords Go.Proofs.YtoldjcmokcgaiaaW.PrintLast Go.Proofs.YtoldjcmokcgaiaaLib
set_option linter.unusedVariables false
set_option linter.unusedSimpArgs false

theorem FnExactGainOfPlan : laws_FnExactGainOfPlan.Pure := by
  intro e l _ _ hl
  refine ⟨_, _, if_pos hl, ?_⟩
  rw [gain_same]
  exact if_pos hl

end Go.Proofs.Ytoldjcmokcgaiaa.Pure
