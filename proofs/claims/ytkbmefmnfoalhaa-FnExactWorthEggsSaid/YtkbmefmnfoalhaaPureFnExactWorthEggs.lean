/- The law FnExactWorthEggs holds: for every input the program's WorthEggs returns what the reference's returns, in every field, leaves its arguments as they were, and shares no memory. Conditions: none but those of the given statement. -/
import Derived.Test.YtkbmefmnfoalhaaPrintC6
import Derived.Test.YtkbmefmnfoalhaaPrintC12
import Derived.Test.YtkbmefmnfoalhaaPrintC15
import Derived.Test.YtkbmefmnfoalhaaPrintC18
import Derived.Test.YtkbmefmnfoalhaaPrintC19
namespace Go.Proofs.Ytkbmefmnfoalhaa.Pure
open Go.RowKit Go.Proofs.Ytkbmefmnfoalhaa.PrintC Go.Proofs.YtkbmefmnfoalhaaW.PrintWords Go.Proofs.YtkbmefmnfoalhaaW.PrintLast Go.Proofs.YtkbmefmnfoalhaaLib
set_option linter.unusedVariables false
set_option linter.unusedSimpArgs false

theorem FnExactWorthEggs : laws_FnExactWorthEggs.Pure := by
  intro p q r n _ _ _ _
  have e1 : (decide ((1 : Int) ≤ 10) && decide ((10 : Int) ≤ 10)) = (decide ((1 : Int) ≤ 1) && decide ((1 : Int) ≤ 10)) := by decide
  have h : spec_WorthEggs.f 11 p q r n = impl_WorthEggs.f 0 p q r n := by
    unfold spec_WorthEggs.f impl_WorthEggs.f
    rw [asked_is p q r 10 n 11 (by omega), costly_is, e1]
  obtain ⟨x, y, z, h2⟩ : ∃ x y z, impl_WorthEggs.f 0 p q r n = some (x, y, z) := by
    unfold impl_WorthEggs.f
    rw [costly_is, Option.bind_some]
    split
    · exact ⟨_, _, _, rfl⟩
    · exact ⟨_, _, _, rfl⟩
  exact ⟨11, 0, x, y, z, h.trans h2, h2⟩

end Go.Proofs.Ytkbmefmnfoalhaa.Pure
