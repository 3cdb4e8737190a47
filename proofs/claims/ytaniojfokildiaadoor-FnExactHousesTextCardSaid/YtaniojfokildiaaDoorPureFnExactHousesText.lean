/- The law FnExactHousesText holds: for every input the program's HousesText returns what the reference's returns, in every field, leaves its arguments as they were, and shares no memory. Conditions: none but those of the given statement. -/
import Derived.Test.YtaniojfokildiaaDoorPrintA6
import Derived.Test.YtaniojfokildiaaDoorPrintA8
import Derived.Test.YtaniojfokildiaaDoorPrintA12
import Derived.Test.YtaniojfokildiaaDoorPrintA13
namespace Go.Proofs.YtaniojfokildiaaDoor.Pure
open Go.RowKit Go.Proofs.YtaniojfokildiaaDoor.PrintA Go.Proofs.YtaniojfokildiaaDoorW.PrintWords Go.Proofs.YtaniojfokildiaaDoorW.PrintLast Go.Proofs.YtaniojfokildiaaDoorLib
set_option linter.unusedVariables false
set_option linter.unusedSimpArgs false

theorem FnExactHousesText : laws_FnExactHousesText.Pure := by
  intro l hw hl
  obtain ⟨b, h1, h2, h3⟩ := spec_hoGood_is l hl (l.length + 4000) (by omega)
  have h1' := h1
  cases b with
  | true =>
    obtain ⟨q1, q2, q3⟩ := h3 rfl
    refine ⟨l.length + 4000, l.length + 1, baOf (Lib.join (l.map Lib.itoa) [47]), true, ?_, ?_⟩
    · unfold spec_HousesText.f
      rw [h1, Option.bind_some, if_pos rfl, hoText_is l (by omega) (fun x hx => by have := q3 x hx; omega) _ (by omega), Option.bind_some]
    · unfold impl_HousesText.f
      rw [h2, Option.bind_some, if_pos rfl, numbersText_is (⟨#[47]⟩ : ByteArray) l (by omega) (by decide) (fun x hx => by have := q3 x hx; omega) _ (by omega), Option.bind_some]
  | false =>
    refine ⟨l.length + 4000, l.length + 1, ⟨#[]⟩, false, ?_, ?_⟩
    · unfold spec_HousesText.f
      rw [h1, Option.bind_some, if_neg (by decide)]
    · unfold impl_HousesText.f
      rw [h2, Option.bind_some, if_neg (by decide)]

end Go.Proofs.YtaniojfokildiaaDoor.Pure
