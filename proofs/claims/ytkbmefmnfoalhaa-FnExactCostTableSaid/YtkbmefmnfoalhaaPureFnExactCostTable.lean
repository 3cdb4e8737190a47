/- The law FnExactCostTable holds: for every input the program's CostTable returns what the reference's returns, in every field, leaves its arguments as they were, and shares no memory. Conditions: none but those of the given statement. -/
import Derived.Test.YtkbmefmnfoalhaaPrintC6
import Derived.Test.YtkbmefmnfoalhaaPrintC15
import Derived.Test.YtkbmefmnfoalhaaPrintC20
import Derived.Test.YtkbmefmnfoalhaaPrintC21
import Derived.Test.YtkbmefmnfoalhaaPrintC28
namespace Go.Proofs.Ytkbmefmnfoalhaa.Pure
open Go.RowKit Go.Proofs.Ytkbmefmnfoalhaa.PrintC Go.Proofs.YtkbmefmnfoalhaaW.PrintWords Go.Proofs.YtkbmefmnfoalhaaW.PrintLast Go.Proofs.YtkbmefmnfoalhaaLib
set_option linter.unusedVariables false
set_option linter.unusedSimpArgs false

theorem FnExactCostTable : laws_FnExactCostTable.Pure := by
  intro p q r a n _ _ _ _ _
  have h : spec_CostTable.f 11 p q r a n = impl_CostTable.f p q r a n := by
    unfold spec_CostTable.f impl_CostTable.f
    rw [asked_is p q r a n 11 (by omega), costly_is]
    rfl
  obtain ⟨x, y, h2, hl⟩ : ∃ x y, impl_CostTable.f p q r a n = some (x, y) ∧ x.length ≤ 1000000 := by
    unfold impl_CostTable.f
    rw [costly_is, Option.bind_some]
    split
    · rename_i hb
      simp only [Bool.and_eq_true, decide_eq_true_eq] at hb
      exact ⟨_, _, rfl, by rw [tabI_len]; omega⟩
    · exact ⟨_, _, rfl, by simp⟩
  exact ⟨11, x, y, h.trans h2, h2, hl⟩

end Go.Proofs.Ytkbmefmnfoalhaa.Pure
