/- The law FnExactSumOfPlay holds: for every input the program's SumOfPlay returns what the reference's returns, in every field, leaves its arguments as they were, and shares no memory. Conditions: none but those of the given statement. -/
import Derived.Test.YtiahedkmlacpkaaPrintZ2
import Derived.Test.YtiahedkmlacpkaaPrintZ15
import Derived.Test.YtiahedkmlacpkaaPrintZ16
import Derived.Test.YtiahedkmlacpkaaPrintZ17
import Derived.Test.YtiahedkmlacpkaaPrintZ18
namespace Go.Proofs.Ytiahedkmlacpkaa.Pure
open Go.RowKit Go.Proofs.Ytiahedkmlacpkaa.PrintZ Go.Proofs.YtiahedkmlacpkaaW.PrintWords Go.Proofs.YtiahedkmlacpkaaW.PrintLast
set_option linter.unusedVariables false
set_option linter.unusedSimpArgs false

theorem spec_meAsked_same (a : Int) (l : List Int) (hl : l.length ≤ 1000000) (k : Nat) (hk : l.length < k) : ∃ b, spec_meAsked.f k a l = some b ∧ impl_isWeighed.f a l = some b := by
  unfold spec_meAsked.f impl_isWeighed.f spec_meGood.f impl_AreWeights.f
  rw [spec_flEggs_is, impl_isEggs_is, Option.bind_some, Option.bind_some, spec_l1In_is, spec_l1All_is l 0 1000 (by omega) k hk, if_pos (show l.length ≤ 1000000000 by omega)]
  by_cases h : (decide (1 ≤ a) && decide (a ≤ 10)) = true
  · rw [if_pos h, if_pos h]
    by_cases h2 : (decide (1 ≤ l.length) && decide (l.length ≤ 31)) = true
    · have h3 : (decide (1 ≤ (l.length : Int)) && decide ((l.length : Int) ≤ 31)) = true := by
        simp only [Bool.and_eq_true, decide_eq_true_eq] at h2 ⊢; omega
      rw [h2, h3]
      exact ⟨l.all (fun x => decide (0 ≤ x) && decide (x ≤ 1000)), rfl, rfl⟩
    · have h3 : (decide (1 ≤ (l.length : Int)) && decide ((l.length : Int) ≤ 31)) = false := by
        rw [Bool.eq_false_iff]; intro hh; apply h2
        simp only [Bool.and_eq_true, decide_eq_true_eq] at hh ⊢; omega
      rw [Bool.eq_false_iff.mpr h2, h3]
      exact ⟨false, rfl, rfl⟩
  · rw [if_neg h, if_neg h]
    exact ⟨false, rfl, rfl⟩
theorem spec_SumOfPlay_l0 (e : Nat) (l : List Int) (he : 1 ≤ e) (he2 : e ≤ 10) (h1 : 1 ≤ l.length) (h31 : l.length ≤ 31) : ∀ (d k i : Nat) (s : Int), l.length - i = d → i ≤ l.length → 40000 + d < k →
    spec_SumOfPlay.l0 k e l s l (l.length : Int) (i : Int) = some (spL e ((l.length : Int) - 1) (l.drop i) i s, true) := by
  intro d
  induction d with
  | zero =>
    intro k i s hd hi hk
    obtain ⟨k, rfl⟩ : ∃ m, k = m + 1 := ⟨k - 1, by omega⟩
    rw [spec_SumOfPlay.l0, if_neg (by omega), List.drop_of_length_le (by omega)]
    rfl
  | succ d ih =>
    intro k i s hd hi hk
    obtain ⟨k, rfl⟩ : ∃ m, k = m + 1 := ⟨k - 1, by omega⟩
    have hlt : i < l.length := by omega
    have hih := fun s => ih k (i + 1) s (by omega) (by omega) (by omega)
    have hs := spec_flPlay_is e ((l.length : Int) - 1) i he he2 (by omega) (by omega) (by omega) (by omega) k (by omega)
    have c1 : (i : Int) < (l.length : Int) := by omega
    have c2 : (0 : Int) ≤ (i : Int) := by omega
    have e1 : wrap64 ((l.length : Int) - 1) = (l.length : Int) - 1 := by unfold wrap64; omega
    have e2 : wrap64 ((i : Int) + 1) = ((i + 1 : Nat) : Int) := by clear e1; unfold wrap64; omega
    rw [spec_SumOfPlay.l0, if_pos c1, if_pos c2, if_pos c1, e1, hs, Option.bind_some, e2, drop_rd_ l i hlt, spL]
    exact hih _
theorem FnExactSumOfPlay : laws_FnExactSumOfPlay.Pure := by
  intro a l _ _ hl
  obtain ⟨b, hb1, hb2⟩ := spec_meAsked_same a l hl 1100000 (by omega)
  unfold spec_SumOfPlay.f impl_SumOfPlay.f
  refine ⟨1100000, ?_⟩
  rw [hb1, hb2, Option.bind_some, Option.bind_some]
  cases b with
  | false => exact ⟨0, false, rfl, rfl⟩
  | true =>
    obtain ⟨⟨ha, hb⟩, ⟨hc, hd⟩, _⟩ := impl_isWeighed_true a l hb2
    obtain ⟨e, rfl⟩ : ∃ m : Nat, a = m := ⟨a.toNat, by omega⟩
    rw [if_pos rfl, if_pos rfl, Int.toNat_natCast]
    exact ⟨_, true, spec_SumOfPlay_l0 e l (by omega) (by omega) hc hd l.length 1100000 0 0 (by omega) (by omega) (by omega), rfl⟩

end Go.Proofs.Ytiahedkmlacpkaa.Pure
