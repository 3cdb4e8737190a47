/- The law FnExactAreHouses holds: for every input the program's AreHouses returns what the reference's returns, in every field, leaves its arguments as they were, and shares no memory. Conditions: none but those of the given statement. -/
import Derived.Test.YtadckogplkabcaaPrintA3
import Derived.Test.YtadckogplkabcaaPrintA4
import Derived.Test.YtadckogplkabcaaPrintA11
namespace Go.Proofs.Ytadckogplkabcaa.Pure
open Go.RowKit Go.Proofs.Ytadckogplkabcaa.PrintA Go.Proofs.YtadckogplkabcaaW.PrintWords Go.Proofs.YtadckogplkabcaaW.PrintLast
set_option linter.unusedVariables false
set_option linter.unusedSimpArgs false

theorem FnExactAreHouses : laws_FnExactAreHouses.Pure := by
  intro l hw hl
  obtain ⟨b, h1, h2, _⟩ := spec_hoGood_is l hl (l.length + 1) (by omega)
  refine ⟨l.length + 1, b, ?_, h2⟩
  unfold spec_AreHouses.f
  rw [h1]; rfl

end Go.Proofs.Ytadckogplkabcaa.Pure
