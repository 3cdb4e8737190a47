/- The law FnExactPlayRounds holds: for every input the program's PlayRounds returns what the reference's returns, in every field, leaves its arguments as they were, and shares no memory. Conditions: none but those of the given statement. -/
import Derived.Test.YtbiibhfcclfoiaaPrintA23
namespace Go.Proofs.Ytbiibhfcclfoiaa.Pure
open Go.RowKit Go.Proofs.Ytbiibhfcclfoiaa.PrintA Go.Proofs.YtbiibhfcclfoiaaW.PrintWords Go.Proofs.YtbiibhfcclfoiaaW.PrintLast Go.Proofs.YtbiibhfcclfoiaaLib
set_option linter.unusedVariables false
set_option linter.unusedSimpArgs false

theorem FnExactPlayRounds : laws_FnExactPlayRounds.Pure := by
  intro a b c d _ _ _ _
  refine ⟨_, _, rfl, rfl, ?_⟩
  split
  · rename_i hg
    obtain ⟨e, hn, rfl, rfl, he1, he2, hh1, hh2, hp, hpl⟩ := rguard_true hg
    rw [hpl]
    have h1 := playR_len hn d 1000 e 0 c
    have h2 := playR_flat hn d 1000 e 0 c he2
    omega
  · simp

end Go.Proofs.Ytbiibhfcclfoiaa.Pure
