/- The law FnExactTestsOfTree holds: for every input the program's TestsOfTree returns what the reference's returns, in every field, leaves its arguments as they were, and shares no memory. Conditions: none but those of the given statement. -/
import Derived.Test.YtmclbiollhdbjaaPrintA4
import Derived.Test.YtmclbiollhdbjaaPrintA7
import Derived.Test.YtmclbiollhdbjaaPrintA14
import Derived.Test.YtmclbiollhdbjaaPrintA19
import Derived.Test.YtmclbiollhdbjaaPrintA23
import Derived.Test.YtmclbiollhdbjaaPrintA24
import Derived.Test.YtmclbiollhdbjaaPrintA25
namespace Go.Proofs.Ytmclbiollhdbjaa.Pure
open Go.RowKit Go.Proofs.Ytmclbiollhdbjaa.PrintA Go.Proofs.YtmclbiollhdbjaaW.PrintWords Go.Proofs.YtmclbiollhdbjaaW.PrintLast Go.Proofs.YtmclbiollhdbjaaLib
set_option linter.unusedVariables false
set_option linter.unusedSimpArgs false

theorem FnExactTestsOfTree : laws_FnExactTestsOfTree.Pure := by
  intro l hw hl
  have h1 := spec_trIs_is l 200 (by omega)
  have h2 := impl_IsTree_is l 200 (by omega)
  unfold spec_TestsOfTree.f impl_TestsOfTree.f
  by_cases g : (decide (l.length ≤ 30) && trOk 30 1 l) = true
  · rw [g] at h1 h2
    obtain ⟨t, rfl, ht⟩ := isTree_tr l g
    have e1 := spec_trTests_is t 1 200 (by omega) (by omega) (by omega) (by omega)
    have e2 := impl_most_is 1 1 (by omega) (by omega) t 200 (by omega) (by omega)
    rw [Tr.mostV_tests] at e2
    exact ⟨200, 200, t.tests, true, by rw [h1]; simp [e1], by rw [h2]; simp [e2]⟩
  · rw [Bool.eq_false_iff.mpr g] at h1 h2
    exact ⟨200, 200, 0, false, by rw [h1]; simp, by rw [h2]; simp⟩

end Go.Proofs.Ytmclbiollhdbjaa.Pure
