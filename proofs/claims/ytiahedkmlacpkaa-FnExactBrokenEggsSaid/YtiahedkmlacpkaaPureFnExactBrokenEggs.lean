/- The law FnExactBrokenEggs holds: for every input the program's BrokenEggs returns what the reference's returns, in every field, leaves its arguments as they were, and shares no memory. Conditions: none but those of the given statement. -/
import Derived.Test.YtiahedkmlacpkaaPrintA3
import Derived.Test.YtiahedkmlacpkaaPrintA6
import Derived.Test.YtiahedkmlacpkaaPrintA15
import Derived.Test.YtiahedkmlacpkaaPrintA18
import Derived.Test.YtiahedkmlacpkaaPrintA19
import Derived.Test.YtiahedkmlacpkaaPrintA21
import Derived.Test.YtiahedkmlacpkaaPrintA22
import Derived.Test.YtiahedkmlacpkaaPrintA23
import Derived.Test.YtiahedkmlacpkaaPrintA24
import Derived.Test.YtiahedkmlacpkaaPrintA25
namespace Go.Proofs.Ytiahedkmlacpkaa.Pure
open Go.RowKit Go.Proofs.Ytiahedkmlacpkaa.PrintA Go.Proofs.YtiahedkmlacpkaaW.PrintWords Go.Proofs.YtiahedkmlacpkaaW.PrintLast
set_option linter.unusedVariables false
set_option linter.unusedSimpArgs false

theorem broken_same (l : List S56) (hl : l.length ≤ 1000000) : ∀ (d k : Nat) (i : Nat) (c : Int), i ≤ l.length → l.length - i = d → d < k → 0 ≤ c → c ≤ i →
    ∃ r, spec_flBroken.l0 k c l (l.length : Int) i = some r ∧ impl_countBroken.l0 k c l (l.length : Int) i = some r := by
  intro d
  induction d with
  | zero =>
    intro k i c h1 hd hk h0 hc
    obtain ⟨k, rfl⟩ : ∃ m, k = m + 1 := ⟨k - 1, by omega⟩
    exact ⟨c, by rw [spec_flBroken.l0, if_neg (by omega)], by rw [impl_countBroken.l0, if_neg (by omega)]⟩
  | succ d ih =>
    intro k i c h1 hd hk h0 hc
    obtain ⟨k, rfl⟩ : ∃ m, k = m + 1 := ⟨k - 1, by omega⟩
    have e1 : wrap64 ((i : Int) + 1) = ((i + 1 : Nat) : Int) := by unfold wrap64; omega
    have e2 : wrap64 (c + 1) = c + 1 := by unfold wrap64; omega
    have hi : (i : Int) < (l.length : Int) := by omega
    by_cases h : (rd_T56 l (i : Int)).f1 = true
    · obtain ⟨r, r1, r2⟩ := ih k (i + 1) (c + 1) (by omega) (by omega) (by omega) (by omega) (by omega)
      refine ⟨r, ?_, ?_⟩
      · rw [spec_flBroken.l0, if_pos hi, if_pos (by omega), if_pos hi, if_pos h, e1, e2]; exact r1
      · rw [impl_countBroken.l0, if_pos hi, if_pos (by omega), if_pos hi, if_pos h, e1, e2]; exact r2
    · obtain ⟨r, r1, r2⟩ := ih k (i + 1) c (by omega) (by omega) (by omega) (by omega) (by omega)
      refine ⟨r, ?_, ?_⟩
      · rw [spec_flBroken.l0, if_pos hi, if_pos (by omega), if_pos hi, if_neg h, e1]; exact r1
      · rw [impl_countBroken.l0, if_pos hi, if_pos (by omega), if_pos hi, if_neg h, e1]; exact r2
theorem FnExactBrokenEggs : laws_FnExactBrokenEggs.Pure := by
  intro a n b _ _ _
  by_cases hp : (1 ≤ a ∧ a ≤ 10) ∧ (0 ≤ n ∧ n ≤ 1000) ∧ (0 ≤ b ∧ b ≤ n)
  · have hpd : (((decide (1 ≤ a) && decide (a ≤ 10)) && (decide (0 ≤ n) && decide (n ≤ 1000))) && (decide (0 ≤ b) && decide (b ≤ n))) = true := by simp [hp]
    obtain ⟨⟨ha, hb⟩, ⟨hc, hd⟩, he, hf⟩ := hp
    obtain ⟨e, rfl⟩ : ∃ m : Nat, a = m := ⟨a.toNat, by omega⟩
    have hs := spec_flPlay_is e n b (by omega) (by omega) hc hd he (by omega) 30000 (by omega)
    have hlen := playF_len bestF b n.toNat e n 0 []
    simp at hlen
    obtain ⟨r, hr1, hr2⟩ := broken_same (playF bestF b n.toNat e n 0 []) (by omega) _ 30000 0 0 (by omega) rfl (by omega) (by omega) (by omega)
    refine ⟨30000, 30000, r, true, ?_, ?_⟩
    · unfold spec_BrokenEggs.f
      rw [spec_flAsked_is, hpd, Option.bind_some, if_pos rfl, hs, Option.bind_some]
      unfold spec_flBroken.f
      rw [show (0 : Int) = ((0 : Nat) : Int) from rfl]
      erw [hr1]; rfl
    · unfold impl_BrokenEggs.f impl_PlayDrops.f
      rw [impl_isPlay_is, hpd, Option.bind_some, if_pos rfl, Int.toNat_natCast, Option.bind_some]
      unfold impl_countBroken.f
      erw [hr2]; rfl
  · have hpd : (((decide (1 ≤ a) && decide (a ≤ 10)) && (decide (0 ≤ n) && decide (n ≤ 1000))) && (decide (0 ≤ b) && decide (b ≤ n))) = false := by
      simp only [Bool.and_eq_false_iff, decide_eq_false_iff_not]; omega
    refine ⟨0, 1, 0, false, ?_, ?_⟩
    · unfold spec_BrokenEggs.f
      rw [spec_flAsked_is, hpd]; rfl
    · unfold impl_BrokenEggs.f impl_PlayDrops.f
      rw [impl_isPlay_is, hpd]; rfl

end Go.Proofs.Ytiahedkmlacpkaa.Pure
