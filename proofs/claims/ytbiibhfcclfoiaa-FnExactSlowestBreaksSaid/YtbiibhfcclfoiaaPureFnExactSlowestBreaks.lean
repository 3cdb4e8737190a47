/- The law FnExactSlowestBreaks holds: for every input the program's SlowestBreaks returns what the reference's returns, in every field, leaves its arguments as they were, and shares no memory. Conditions: none but those of the given statement. -/
import Derived.Test.YtbiibhfcclfoiaaPrintA22
namespace Go.Proofs.Ytbiibhfcclfoiaa.Pure
open Go.RowKit Go.Proofs.Ytbiibhfcclfoiaa.PrintA Go.Proofs.YtbiibhfcclfoiaaW.PrintWords Go.Proofs.YtbiibhfcclfoiaaW.PrintLast Go.Proofs.YtbiibhfcclfoiaaLib
set_option linter.unusedVariables false
set_option linter.unusedSimpArgs false

theorem FnExactSlowestBreaks : laws_FnExactSlowestBreaks.Pure := by
  intro a b c _ _ _
  refine ⟨_, _, rfl, rfl, ?_⟩
  split
  · rename_i hg
    unfold slowG at hg
    simp only [Bool.and_eq_true, decide_eq_true_eq] at hg
    unfold slowL
    refine Nat.le_trans (greatR_len _ _ _ _ _ _) ?_
    simp; omega
  · simp

end Go.Proofs.Ytbiibhfcclfoiaa.Pure
