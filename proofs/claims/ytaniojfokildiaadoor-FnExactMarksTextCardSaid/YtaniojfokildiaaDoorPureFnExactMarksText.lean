/- The law FnExactMarksText holds: for every input the program's MarksText returns what the reference's returns, in every field, leaves its arguments as they were, and shares no memory. Conditions: none but those of the given statement. -/
import Derived.Test.YtaniojfokildiaaDoorPrintA8
import Derived.Test.YtaniojfokildiaaDoorPrintA12
import Derived.Test.YtaniojfokildiaaDoorPrintA14
import Derived.Test.YtaniojfokildiaaDoorPrintA15
import Derived.Test.YtaniojfokildiaaDoorPrintA16
import Derived.Test.YtaniojfokildiaaDoorPrintA17
namespace Go.Proofs.YtaniojfokildiaaDoor.Pure
open Go.RowKit Go.Proofs.YtaniojfokildiaaDoor.PrintA Go.Proofs.YtaniojfokildiaaDoorW.PrintWords Go.Proofs.YtaniojfokildiaaDoorW.PrintLast Go.Proofs.YtaniojfokildiaaDoorLib
set_option linter.unusedVariables false
set_option linter.unusedSimpArgs false

theorem FnExactMarksText : laws_FnExactMarksText.Pure := by
  intro l hw hl
  have h1 := spec_stGood_is 100 l (by omega) (l.length + 4000) (by omega)
  have h2 := impl_AreMarks_is 100 l (by omega) (l.length + 4000) (by omega)
  by_cases g : ((decide (0 ≤ (100 : Int)) && decide ((100 : Int) ≤ 100)) && risL 1 100 0 l) = true
  · rw [g] at h1 h2
    have g' : risL 1 100 0 l = true := by simpa using g
    have q1 := risL_length 1 100 l 0 g' (by omega)
    have q2 := risL_mem 1 100 l 0 g'
    refine ⟨l.length + 4000, l.length + 4000, baOf (Lib.join (l.map Lib.itoa) [45]), true, ?_, ?_⟩
    · unfold spec_MarksText.f
      rw [h1, Option.bind_some, if_pos rfl, stText_is l (by omega) (fun x hx => by have := q2 x hx; omega) _ (by omega), Option.bind_some]
    · unfold impl_MarksText.f
      rw [h2, Option.bind_some, if_pos rfl, numbersText_is (⟨#[45]⟩ : ByteArray) l (by omega) (by decide) (fun x hx => by have := q2 x hx; omega) _ (by omega), Option.bind_some]
  · rw [Bool.eq_false_iff.mpr g] at h1 h2
    refine ⟨l.length + 4000, l.length + 4000, ⟨#[]⟩, false, ?_, ?_⟩
    · unfold spec_MarksText.f
      rw [h1, Option.bind_some, if_neg (by decide)]
    · unfold impl_MarksText.f
      rw [h2, Option.bind_some, if_neg (by decide)]

end Go.Proofs.YtaniojfokildiaaDoor.Pure
