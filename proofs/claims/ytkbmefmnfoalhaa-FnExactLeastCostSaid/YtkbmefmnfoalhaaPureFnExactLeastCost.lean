/- The law FnExactLeastCost holds: for every input the program's LeastCost returns what the reference's returns, in every field, leaves its arguments as they were, and shares no memory. Conditions: none but those of the given statement. -/
import Derived.Test.YtkbmefmnfoalhaaPrintB6
import Derived.Test.YtkbmefmnfoalhaaPrintB12
import Derived.Test.YtkbmefmnfoalhaaPrintB15
import Derived.Test.YtkbmefmnfoalhaaPrintB18
import Derived.Test.YtkbmefmnfoalhaaPrintB19
namespace Go.Proofs.Ytkbmefmnfoalhaa.Pure
open Go.RowKit Go.Proofs.Ytkbmefmnfoalhaa.PrintB Go.Proofs.YtkbmefmnfoalhaaW.PrintWords Go.Proofs.YtkbmefmnfoalhaaW.PrintLast Go.Proofs.YtkbmefmnfoalhaaLib
set_option linter.unusedVariables false
set_option linter.unusedSimpArgs false

theorem least_same (p q r a n : Int) : ∃ x y, spec_LeastCost.f 11 p q r a n = some (x, y) ∧ impl_LeastCost.f p q r a n = some (x, y) := by
  unfold spec_LeastCost.f impl_LeastCost.f
  rw [asked_same p q r a n 11 (by omega), costly_is, Option.bind_some]
  split
  · exact ⟨_, _, rfl, rfl⟩
  · exact ⟨_, _, rfl, rfl⟩
theorem FnExactLeastCost : laws_FnExactLeastCost.Pure := by
  intro p q r a n _ _ _ _ _
  obtain ⟨x, y, h1, h2⟩ := least_same p q r a n
  exact ⟨11, x, y, h1, h2⟩

end Go.Proofs.Ytkbmefmnfoalhaa.Pure
