/- The law FnExactEggsNeeded holds: for every input the program's EggsNeeded returns what the reference's returns, in every field, leaves its arguments as they were, and shares no memory. Conditions: none but those of the given statement. -/
import Derived.Test.YtadckogplkabcaaPrintA3
import Derived.Test.YtadckogplkabcaaPrintA18
import Derived.Test.YtadckogplkabcaaPrintA20
import Derived.Test.YtadckogplkabcaaPrintA21
namespace Go.Proofs.Ytadckogplkabcaa.Pure
open Go.RowKit Go.Proofs.Ytadckogplkabcaa.PrintA Go.Proofs.YtadckogplkabcaaW.PrintWords Go.Proofs.YtadckogplkabcaaW.PrintLast
set_option linter.unusedVariables false
set_option linter.unusedSimpArgs false

theorem FnExactEggsNeeded : laws_FnExactEggsNeeded.Pure := by
  intro l hw hl
  obtain ⟨b, h1, h2, _⟩ := spec_hoGood_is l hl (l.length + 1) (by omega)
  obtain ⟨t, h3⟩ := spec_hoNeeded_some l hl (l.length + 1) (by omega)
  have h4 := impl_needed_is l (l.length + 1)
  unfold spec_EggsNeeded.f impl_EggsNeeded.f
  cases b with
  | true => exact ⟨l.length + 1, l.length + 1, t, true, by rw [h1]; simp [h3], by rw [h2]; simp [h4, h3]⟩
  | false => exact ⟨l.length + 1, l.length + 1, 0, false, by rw [h1]; simp, by rw [h2]; simp⟩

end Go.Proofs.Ytadckogplkabcaa.Pure
