/- The law FnExactMarkDrops holds: for every input the program's MarkDrops returns what the reference's returns, in every field, leaves its arguments as they were, and shares no memory. Conditions: none but those of the given statement. -/
import Derived.Test.YtalalaepdjmelaaPrintB10
import Derived.Test.YtalalaepdjmelaaPrintB12
import Derived.Test.YtalalaepdjmelaaPrintB13
import Derived.Test.YtalalaepdjmelaaPrintB14
import Derived.Test.YtalalaepdjmelaaPrintB16
import Derived.Test.YtalalaepdjmelaaPrintB18
import Derived.Test.YtalalaepdjmelaaPrintB19
import Derived.Test.YtalalaepdjmelaaPrintB27
namespace Go.Proofs.Ytalalaepdjmelaa.Pure
open Go.RowKit Go.Proofs.Ytalalaepdjmelaa.PrintB Go.Proofs.YtalalaepdjmelaaW.PrintWords Go.Proofs.YtalalaepdjmelaaW.PrintLast Go.Proofs.YtalalaepdjmelaaLib
set_option linter.unusedVariables false
set_option linter.unusedSimpArgs false

theorem FnExactMarkDrops : laws_FnExactMarkDrops.Pure := by
  intro a l b _ _ _ hl
  have h1 := spec_stGood_is a l (by omega) (l.length + 500) (by omega)
  have h2 := impl_AreMarks_is a l (by omega) (l.length + 500) (by omega)
  by_cases g : ((decide (0 ≤ a) && decide (a ≤ 100)) && risL 1 a 0 l) = true
  · by_cases hb : (decide (0 ≤ b) && decide (b ≤ a)) = true
    · have g' := g
      have hb' := hb
      simp only [Bool.and_eq_true, decide_eq_true_eq] at g' hb'
      obtain ⟨r, r1, r2, r3⟩ := drops_same l a b g'.1.2 hb'.1 hb'.2 g'.2 (l.length + 500) (by omega)
      rw [g] at h1 h2
      refine ⟨l.length + 500, l.length + 500, r, true, ?_, ?_, by omega⟩
      · unfold spec_MarkDrops.f spec_stAsked.f
        simp only [h1, spec_l1In_is, hb, r1, Option.bind_some, if_true]
      · unfold impl_MarkDrops.f impl_isBreak.f
        simp only [h2, impl_within_is, hb, r2, Option.bind_some, if_true]
    · rw [g] at h1 h2
      have hb' := Bool.eq_false_iff.mpr hb
      refine ⟨l.length + 500, l.length + 500, [], false, ?_, ?_, by simp⟩
      · unfold spec_MarkDrops.f spec_stAsked.f
        simp [h1, spec_l1In_is, hb']
      · unfold impl_MarkDrops.f impl_isBreak.f
        simp [h2, impl_within_is, hb']
  · rw [Bool.eq_false_iff.mpr g] at h1 h2
    refine ⟨l.length + 500, l.length + 500, [], false, ?_, ?_, by simp⟩
    · unfold spec_MarkDrops.f spec_stAsked.f
      simp [h1]
    · unfold impl_MarkDrops.f
      simp [h2]

end Go.Proofs.Ytalalaepdjmelaa.Pure
