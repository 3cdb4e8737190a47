-- written by this session's own driver (wip/gen.py) with the kit's print and contracts of our own
import Derived.Test.YtiahedkmlacpkaaPrintA0
import Derived.Test.YtiahedkmlacpkaaPrintA3
import Derived.Test.YtiahedkmlacpkaaPrintA9
import Derived.Test.YtiahedkmlacpkaaPrintA11
import Derived.Test.YtiahedkmlacpkaaPrintA12
namespace Go.Proofs.Ytiahedkmlacpkaa.PrintA
open Go.RowKit Go.Proofs.YtiahedkmlacpkaaW.PrintWords Go.Proofs.YtiahedkmlacpkaaW.PrintLast Go.Proofs.YtiahedkmlacpkaaW.PrintMore
attribute [local go_sem] max2_int min2_int max_two min_two max_three min_three max_four min_four   -- for this text's walks alone
set_option linter.unusedVariables false
set_option linter.unusedSimpArgs false

/-! behind spec_flGood -/
theorem spec_flGood_l0 (n R1 R2 b : Int) (hn : n ≤ 1000) (hR1 : 0 ≤ R1 ∧ R1 ≤ 1000000001) (hR2 : 0 ≤ R2 ∧ R2 ≤ 1000000001) (hb : b = max 1 (n - R2)) (hb1 : b - 1 ≤ R1) (hbn : b ≤ n) : ∀ (d k : Nat) (i : Int) (acc : List Int), 1 ≤ i → i ≤ n + 1 → n + 1 - i = d → d < k → (acc.length : Int) < i → ((acc = [] ∧ i ≤ b) ∨ (0 < acc.length ∧ rd acc 0 = b)) →
    ∃ r, spec_flGood.l0 k n R1 R2 acc i = some r ∧ 0 < r.length ∧ rd r 0 = b := by
  intro d
  induction d with
  | zero =>
    intro k i acc h1 h2 hd hk hl hs
    obtain ⟨k, rfl⟩ : ∃ m, k = m + 1 := ⟨k - 1, by omega⟩
    refine ⟨acc, by rw [spec_flGood.l0, if_neg (by omega)], ?_⟩
    rcases hs with ⟨_, h⟩ | h
    · omega
    · exact h
  | succ d ih =>
    intro k i acc h1 h2 hd hk hl hs
    obtain ⟨k, rfl⟩ : ∃ m, k = m + 1 := ⟨k - 1, by omega⟩
    have e1 : wrap64 (i - 1) = i - 1 := by unfold wrap64; omega
    have e2 : wrap64 (n - i) = n - i := by unfold wrap64; omega
    have e3 : wrap64 (i + 1) = i + 1 := by unfold wrap64; omega
    rw [spec_flGood.l0, e1, e2, e3, if_pos (by omega)]
    have hskip : ¬ (R1 ≥ i - 1 ∧ R2 ≥ n - i) → ((acc = [] ∧ i + 1 ≤ b) ∨ (0 < acc.length ∧ rd acc 0 = b)) := by
      intro hno
      rcases hs with ⟨ha, hi⟩ | h
      · left; refine ⟨ha, ?_⟩; omega
      · exact Or.inr h
    by_cases c1 : R1 ≥ i - 1
    · rw [if_pos c1]
      by_cases c2 : R2 ≥ n - i
      · rw [if_pos c2, if_pos (by omega)]
        refine ih k (i + 1) (acc ++ [i]) (by omega) (by omega) (by omega) (by omega) (by simp; omega) (Or.inr ⟨by simp, ?_⟩)
        rcases hs with ⟨ha, hi⟩ | ⟨h3, h4⟩
        · subst ha; simp [rd]; omega
        · rw [← h4]
          cases acc with
          | nil => simp at h3
          | cons y ys => simp [rd]
      · rw [if_neg c2]
        exact ih k (i + 1) acc (by omega) (by omega) (by omega) (by omega) (by omega) (hskip (fun h => c2 h.2))
    · rw [if_neg c1]
      exact ih k (i + 1) acc (by omega) (by omega) (by omega) (by omega) (by omega) (hskip (fun h => c1 h.1))
theorem spec_flGood_is (e : Nat) (n : Int) (he : e ≤ 10) (he1 : 1 ≤ e) (hn1 : 1 ≤ n) (hn : n ≤ 1000) (k : Nat) (hk : 20000 ≤ k) : ∃ r, spec_flGood.f k e n = some r ∧ 0 < r.length ∧ rd r 0 = bestF e n := by
  obtain ⟨t, ht⟩ : ∃ t, few e n = t + 1 := ⟨few e n - 1, by have := few_pos e n hn1; omega⟩
  have h1000 := few_le e n
  obtain ⟨e', rfl⟩ : ∃ e', e = e' + 1 := ⟨e - 1, by omega⟩
  have e1 : wrap64 (((e' + 1 : Nat) : Int) - 1) = (e' : Int) := by unfold wrap64; omega
  have e2 : wrap64 (((t + 1 : Nat) : Int) - 1) = (t : Int) := by unfold wrap64; omega
  have hb : bestF (e' + 1) n = max 1 (n - rch t (e' + 1)) := by unfold bestF; rw [ht]; rfl
  have hr := bestF_range (e' + 1) n hn1
  have hn2 : n ≤ rch (t + 1) (e' + 1) := by
    by_cases hf : t + 1 < 1000
    · exact (few_le_iff (e' + 1) n (t + 1) hf).1 (by omega)
    · have := rch_lin (t + 1) (e' + 1) (by omega) (by omega)
      omega
  have hg1 := rch_range t e'
  have hg2 := rch_range t (e' + 1)
  unfold spec_flGood.f
  rw [spec_flFew_is (e' + 1) n he he1 hn k hk, Option.bind_some, ht, e1, e2, spec_flReach_is e' t (by omega) (by omega) k hk, Option.bind_some, spec_flReach_is (e' + 1) t he (by omega) k hk, Option.bind_some, hb]
  simp only [rch] at hn2
  exact spec_flGood_l0 n (rch t e') (rch t (e' + 1)) _ hn hg1 hg2 rfl (by omega) (by omega) n.toNat k 1 [] (by omega) (by omega) (by omega) (by omega) (by simp) (Or.inl ⟨rfl, by omega⟩)

end Go.Proofs.Ytiahedkmlacpkaa.PrintA
