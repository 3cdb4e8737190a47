/- The law FnExactPlayDrops holds: for every input the program's PlayDrops returns what the reference's returns, in every field, leaves its arguments as they were, and shares no memory. Conditions: none but those of the given statement. -/
import Derived.Test.YtiahedkmlacpkaaPrintA3
import Derived.Test.YtiahedkmlacpkaaPrintA6
import Derived.Test.YtiahedkmlacpkaaPrintA15
import Derived.Test.YtiahedkmlacpkaaPrintA18
import Derived.Test.YtiahedkmlacpkaaPrintA19
import Derived.Test.YtiahedkmlacpkaaPrintA21
import Derived.Test.YtiahedkmlacpkaaPrintA26
import Derived.Test.YtiahedkmlacpkaaPrintA33
namespace Go.Proofs.Ytiahedkmlacpkaa.Pure
open Go.RowKit Go.Proofs.Ytiahedkmlacpkaa.PrintA Go.Proofs.YtiahedkmlacpkaaW.PrintWords Go.Proofs.YtiahedkmlacpkaaW.PrintLast
set_option linter.unusedVariables false
set_option linter.unusedSimpArgs false

theorem FnExactPlayDrops : laws_FnExactPlayDrops.Pure := by
  intro a n b _ _ _
  by_cases hp : (1 ≤ a ∧ a ≤ 10) ∧ (0 ≤ n ∧ n ≤ 1000) ∧ (0 ≤ b ∧ b ≤ n)
  · have hpd : (((decide (1 ≤ a) && decide (a ≤ 10)) && (decide (0 ≤ n) && decide (n ≤ 1000))) && (decide (0 ≤ b) && decide (b ≤ n))) = true := by simp [hp]
    obtain ⟨⟨ha, hb⟩, ⟨hc, hd⟩, he, hf⟩ := hp
    obtain ⟨e, rfl⟩ : ∃ m : Nat, a = m := ⟨a.toNat, by omega⟩
    have hs := spec_flPlay_is e n b (by omega) (by omega) hc hd he (by omega) 30000 (by omega)
    refine ⟨30000, playF bestF b n.toNat e n 0 [], true, ?_, ?_, ?_⟩
    · unfold spec_PlayDrops.f
      rw [spec_flAsked_is, hpd, Option.bind_some, if_pos rfl, hs]; rfl
    · unfold impl_PlayDrops.f
      rw [impl_isPlay_is, hpd, Option.bind_some, if_pos rfl, Int.toNat_natCast]
    · have := playF_len bestF b n.toNat e n 0 []
      simp at this; omega
  · have hpd : (((decide (1 ≤ a) && decide (a ≤ 10)) && (decide (0 ≤ n) && decide (n ≤ 1000))) && (decide (0 ≤ b) && decide (b ≤ n))) = false := by
      simp only [Bool.and_eq_false_iff, decide_eq_false_iff_not]; omega
    refine ⟨0, [], false, ?_, ?_, by simp⟩
    · unfold spec_PlayDrops.f
      rw [spec_flAsked_is, hpd]; rfl
    · unfold impl_PlayDrops.f
      rw [impl_isPlay_is, hpd]; rfl

end Go.Proofs.Ytiahedkmlacpkaa.Pure
