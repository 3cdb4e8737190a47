/- The law FnExactIsBestTree holds: for every input the program's IsBestTree returns what the reference's returns, in every field, leaves its arguments as they were, and shares no memory. Conditions: none but those of the given statement. -/
import Derived.Test.YtmclbiollhdbjaaPrintY1
import Derived.Test.YtmclbiollhdbjaaPrintY6
import Derived.Test.YtmclbiollhdbjaaPrintY7
import Derived.Test.YtmclbiollhdbjaaPrintY8
import Derived.Test.YtmclbiollhdbjaaPrintY9
import Derived.Test.YtmclbiollhdbjaaPrintY10
import Derived.Test.YtmclbiollhdbjaaPrintY11
import Derived.Test.YtmclbiollhdbjaaPrintY12
namespace Go.Proofs.Ytmclbiollhdbjaa.Pure
open Go.RowKit Go.Proofs.Ytmclbiollhdbjaa.PrintY Go.Proofs.YtmclbiollhdbjaaW.PrintWords Go.Proofs.YtmclbiollhdbjaaW.PrintLast Go.Proofs.YtmclbiollhdbjaaLib
set_option linter.unusedVariables false
set_option linter.unusedSimpArgs false

theorem FnExactIsBestTree : laws_FnExactIsBestTree.Pure := by
  intro a l _ hw hl
  have h1 := spec_trIs_is l 30000 (by omega)
  have h2 := impl_IsTree_is l 30001 (by omega)
  unfold spec_IsBestTree.f impl_IsBestTree.f
  refine ⟨30000, 30001, ?_⟩
  rw [spec_flEggs_is, impl_isEggs_is, Option.bind_some, Option.bind_some, h1, h2]
  by_cases ha : (decide (1 ≤ a) && decide (a ≤ 10)) = true
  · rw [ha, if_pos rfl, if_pos rfl, Option.bind_some, Option.bind_some]
    simp only [Bool.and_eq_true, decide_eq_true_eq] at ha
    obtain ⟨e, rfl⟩ : ∃ m : Nat, a = m := ⟨a.toNat, by omega⟩
    by_cases g : (decide (l.length ≤ 30) && trOk 30 1 l) = true
    · rw [g, if_pos rfl, if_pos rfl]
      obtain ⟨t, rfl, ht⟩ := isTree_tr l g
      have e1 := spec_trTests_is t 1 30000 (by omega) (by omega) (by omega) (by omega)
      have e2 := impl_most_is 1 1 (by omega) (by omega) t 30001 (by omega) (by omega)
      have e3 := impl_most_is 1 0 (by omega) (by omega) t 30001 (by omega) (by omega)
      rw [Tr.mostV_tests] at e2
      rw [Tr.mostV_eggs] at e3
      have e4 := spec_flFew_is e (((t.toL 1).length : Nat) : Int) (by omega) (by omega) (by rw [Tr.toL_length]; omega) 30000 (by omega)
      unfold spec_trBest.f
      rw [e1, Option.bind_some, e4, Option.bind_some, e2, Option.bind_some, Int.toNat_natCast]
      by_cases hq : t.tests = (few e (((t.toL 1).length : Nat) : Int) : Int)
      · rw [if_pos hq, if_pos hq, e3, Option.bind_some]
        exact ⟨decide (t.eggs ≤ e), true, rfl, rfl⟩
      · rw [if_neg hq, if_neg hq]
        exact ⟨false, true, rfl, rfl⟩
    · rw [Bool.eq_false_iff.mpr g]
      exact ⟨false, false, rfl, rfl⟩
  · rw [Bool.eq_false_iff.mpr ha]
    exact ⟨false, false, rfl, rfl⟩

end Go.Proofs.Ytmclbiollhdbjaa.Pure
