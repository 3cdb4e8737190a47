/- The law FnExactHouseTable holds: for every input the program's HouseTable returns what the reference's returns, in every field, leaves its arguments as they were, and shares no memory. Conditions: none but those of the given statement. -/
import Derived.Test.YtoldjcmokcgaiaaPrintA22
import Derived.Test.YtoldjcmokcgaiaaPrintA25
namespace Go.Proofs.Ytoldjcmokcgaiaa.Pure
open Go.RowKit Go.Proofs.Ytoldjcmokcgaiaa.PrintA Go.Proofs.YtoldjcmokcgaiaaW.PrintWords Go.Proofs.YtoldjcmokcgaiaaW.PrintLast Go.Proofs.YtoldjcmokcgaiaaLib
set_option linter.unusedVariables false
set_option linter.unusedSimpArgs false

theorem FnExactHouseTable : laws_FnExactHouseTable.Pure := by
  intro l _ hl
  refine ⟨_, _, if_pos ?_, if_pos ?_, ?_⟩
  · exact hl
  · exact hl
  · have := hNeed_nonneg l
    split
    · rw [hTb_len]; omega
    · simp

end Go.Proofs.Ytoldjcmokcgaiaa.Pure
