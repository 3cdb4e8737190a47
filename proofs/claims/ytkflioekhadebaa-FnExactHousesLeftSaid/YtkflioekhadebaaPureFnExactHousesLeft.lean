/- The law FnExactHousesLeft holds: for every input the program's HousesLeft returns what the reference's returns, in every field, leaves its arguments as they were, and shares no memory. Conditions: none but those of the given statement. -/
import Derived.Test.YtkflioekhadebaaPrintA9
import Derived.Test.YtkflioekhadebaaPrintA11
import Derived.Test.YtkflioekhadebaaPrintA20
namespace Go.Proofs.Ytkflioekhadebaa.Pure
open Go.RowKit Go.Proofs.Ytkflioekhadebaa.PrintA Go.Proofs.YtkflioekhadebaaW.PrintWords Go.Proofs.YtkflioekhadebaaW.PrintLast Go.Proofs.YtkflioekhadebaaLib
set_option linter.unusedVariables false
set_option linter.unusedSimpArgs false

theorem hlAnswer_size (l : List Int) (ds : List S47) : (hlAnswer l ds).1.length + (hlAnswer l ds).1.flatten.length ≤ 1000000 := by
  unfold hlAnswer
  split
  next h =>
    obtain ⟨_, h3, _⟩ := hlGood_iff l h.1
    unfold hlRes
    split
    · have h1 := hlOut_len l ds l.length
      have h2 : (hlOut l ds l.length).flatten.length ≤ 2 * l.length := by
        unfold hlOut
        generalize l.length = n
        induction n with
        | zero => simp
        | succ n ih =>
          rw [List.range_succ, List.map_append, List.flatten_append, List.length_append]
          simp only [List.map_cons, List.map_nil, List.flatten_cons, List.flatten_nil, List.append_nil, List.length_cons, List.length_nil]
          omega
      show (hlOut l ds l.length).length + (hlOut l ds l.length).flatten.length ≤ 1000000
      omega
    · simp
  · simp
theorem FnExactHousesLeft : laws_FnExactHousesLeft.Pure := by
  intro l0 l1 hw hl
  refine ⟨1000, (hlAnswer l0 l1).1, (hlAnswer l0 l1).2, ?_, impl_HousesLeft_is l0 l1 (by omega), hlAnswer_size l0 l1⟩
  unfold spec_HousesLeft.f
  rw [if_pos ⟨by omega, by omega⟩]

end Go.Proofs.Ytkflioekhadebaa.Pure
