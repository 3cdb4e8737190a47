/- The law FnExactHarmlessMarks holds: for every input the program's HarmlessMarks returns what the reference's returns, in every field, leaves its arguments as they were, and shares no memory. Conditions: none but those of the given statement. -/
import Derived.Test.YtalalaepdjmelaaPrintF5
import Derived.Test.YtalalaepdjmelaaPrintF6
import Derived.Test.YtalalaepdjmelaaPrintF7
import Derived.Test.YtalalaepdjmelaaPrintF9
import Derived.Test.YtalalaepdjmelaaPrintF10
namespace Go.Proofs.Ytalalaepdjmelaa.Pure
open Go.RowKit Go.Proofs.Ytalalaepdjmelaa.PrintF Go.Proofs.YtalalaepdjmelaaW.PrintWords Go.Proofs.YtalalaepdjmelaaW.PrintLast Go.Proofs.YtalalaepdjmelaaLib
set_option linter.unusedVariables false
set_option linter.unusedSimpArgs false

theorem risL_weak (lo hi : Int) : ∀ (l : List Int) (p p' : Int), p' ≤ p → risL lo hi p l = true → risL lo hi p' l = true
  | [], _, _, _, _ => rfl
  | x :: r, p, p', hp, h => by
    simp only [risL, Bool.and_eq_true, decide_eq_true_eq] at h ⊢
    exact ⟨h.1, by omega, h.2.2⟩
theorem risL_erase (lo hi : Int) : ∀ (l : List Int) (p : Int) (k : Nat), risL lo hi p l = true → risL lo hi p (l.eraseIdx k) = true
  | [], _, _, _ => by simp [risL]
  | x :: r, p, 0, h => by
    simp only [risL, Bool.and_eq_true, decide_eq_true_eq] at h
    exact risL_weak lo hi r x p (by omega) h.2.2
  | x :: r, p, k + 1, h => by
    simp only [risL, Bool.and_eq_true, decide_eq_true_eq, List.eraseIdx_cons_succ] at h ⊢
    exact ⟨h.1, h.2.1, risL_erase lo hi r x k h.2.2⟩
theorem stLess_is (l : List Int) (k : Nat) (hk : k < l.length) (hl : l.length ≤ 1000) : spec_stLess.f l k = some (l.eraseIdx k) := by
  have e1 : wrap64 ((k : Int) + 1) = ((k + 1 : Nat) : Int) := by unfold wrap64; omega
  unfold spec_stLess.f
  rw [if_pos (by clear e1; omega), if_pos (by clear e1; omega), Int.toNat_natCast, spec_l1Own_is _ (by simp; omega), Option.bind_some, e1, if_pos (by clear e1; omega), if_pos (by clear e1; omega), Int.toNat_natCast, if_pos (by simp; clear e1; omega), List.eraseIdx_eq_take_drop_succ]
/-- The marks up to i without which the worst case is the same. -/
def hmL (a : Nat) (l : List Int) : Nat → List Int
  | 0 => []
  | i + 1 => if mxF (dropN a (l.eraseIdx i)) (a + 1) = mxF (dropN a l) (a + 1) then hmL a l i ++ [(i : Int)] else hmL a l i
theorem hmL_len (a : Nat) (l : List Int) : ∀ i, (hmL a l i).length ≤ i
  | 0 => Nat.le_refl _
  | i + 1 => by
    have := hmL_len a l i
    rw [hmL]
    split
    · simp; omega
    · omega
theorem spec_hm (a : Nat) (l : List Int) (ha : a ≤ 100) (hl : l.length ≤ 1000) (hg : risL 1 a 0 l = true) : ∀ (d k i : Nat), l.length - i = d → i ≤ l.length → 1000 + d < k →
    spec_HarmlessMarks.l0 k a l (hmL a l i) (l.length : Int) i = some (hmL a l l.length, true)
  | 0, k, i, hd, hi, hk => by
    obtain ⟨k, rfl⟩ : ∃ m, k = m + 1 := ⟨k - 1, by omega⟩
    obtain rfl : i = l.length := by omega
    rw [spec_HarmlessMarks.l0, if_neg (by omega)]
  | d + 1, k, i, hd, hi, hk => by
    obtain ⟨k, rfl⟩ : ∃ m, k = m + 1 := ⟨k - 1, by omega⟩
    have e2 : wrap64 ((i : Int) + 1) = ((i + 1 : Nat) : Int) := by unfold wrap64; omega
    have ih := spec_hm a l ha hl hg d k (i + 1) (by omega) (by omega) (by omega)
    have hlen := hmL_len a l i
    rw [spec_HarmlessMarks.l0, if_pos (by clear e2; omega), stLess_is l i (by clear e2; omega) hl, Option.bind_some, stWorst_is a _ ha (risL_erase 1 a l 0 i hg) k (by clear e2; omega), Option.bind_some, stWorst_is a l ha hg k (by clear e2; omega), Option.bind_some, e2]
    rw [hmL] at ih
    by_cases hc : mxF (dropN a (l.eraseIdx i)) (a + 1) = mxF (dropN a l) (a + 1)
    · rw [if_pos hc, if_pos (by clear e2; omega)]
      rw [if_pos hc] at ih
      exact ih
    · rw [if_neg hc]
      rw [if_neg hc] at ih
      exact ih
theorem impl_hm (a : Nat) (l : List Int) (ha : a ≤ 100) (hl : l.length ≤ 1000) (hg : risL 1 a 0 l = true) : ∀ (d k i : Nat), l.length - i = d → i ≤ l.length → 1000 + d < k →
    impl_HarmlessMarks.l0 k a l (mxF (dropN a l) (a + 1)) (hmL a l i) (l.length : Int) i = some (hmL a l l.length, true)
  | 0, k, i, hd, hi, hk => by
    obtain ⟨k, rfl⟩ : ∃ m, k = m + 1 := ⟨k - 1, by omega⟩
    obtain rfl : i = l.length := by omega
    rw [impl_HarmlessMarks.l0, if_neg (by omega)]
  | d + 1, k, i, hd, hi, hk => by
    obtain ⟨k, rfl⟩ : ∃ m, k = m + 1 := ⟨k - 1, by omega⟩
    have e2 : wrap64 ((i : Int) + 1) = ((i + 1 : Nat) : Int) := by unfold wrap64; omega
    have ih := impl_hm a l ha hl hg d k (i + 1) (by omega) (by omega) (by omega)
    have hlen := hmL_len a l i
    obtain ⟨s, hm⟩ := marked_is a (l.eraseIdx i) ha (risL_erase 1 a l 0 i hg) k (by omega)
    have hw : impl_without.f l i = some (l.eraseIdx i) := by unfold impl_without.f; rw [if_pos (by omega), Int.toNat_natCast]
    rw [impl_HarmlessMarks.l0, if_pos (by clear e2; omega), hw, Option.bind_some, hm, Option.bind_some, e2]
    rw [hmL] at ih
    by_cases hc : mxF (dropN a (l.eraseIdx i)) (a + 1) = mxF (dropN a l) (a + 1)
    · rw [if_pos hc, if_pos (by clear e2; omega)]
      rw [if_pos hc] at ih
      exact ih
    · rw [if_neg hc]
      rw [if_neg hc] at ih
      exact ih
theorem FnExactHarmlessMarks : laws_FnExactHarmlessMarks.Pure := by
  intro a l _ _ hl
  have h1 := spec_stGood_is a l (by omega) 1100000 (by omega)
  have h2 := impl_AreMarks_is a l (by omega) 1100000 (by omega)
  unfold spec_HarmlessMarks.f impl_HarmlessMarks.f impl_WorstOfMarks.f
  refine ⟨1100000, 1100000, ?_⟩
  rw [h1, h2, Option.bind_some, Option.bind_some]
  by_cases hg : ((decide (0 ≤ a) && decide (a ≤ 100)) && risL 1 a 0 l) = true
  · rw [hg, if_pos rfl, if_pos rfl]
    simp only [Bool.and_eq_true, decide_eq_true_eq] at hg
    obtain ⟨⟨ha0, ha1⟩, hr⟩ := hg
    obtain ⟨n, rfl⟩ : ∃ n : Nat, a = n := ⟨a.toNat, by omega⟩
    have hlen := risL_length 1 n l 0 hr (by omega)
    obtain ⟨s, hm⟩ := marked_is n l (by omega) hr 1100000 (by omega)
    have hl2 := hmL_len n l l.length
    refine ⟨hmL n l l.length, true, ?_, ?_, by omega⟩
    · exact spec_hm n l (by omega) (by omega) hr l.length 1100000 0 (by omega) (by omega) (by omega)
    · rw [hm, Option.bind_some, Option.bind_some, if_pos rfl]
      exact impl_hm n l (by omega) (by omega) hr l.length 1100000 0 (by omega) (by omega) (by omega)
  · rw [Bool.eq_false_iff.mpr hg]
    exact ⟨[], false, rfl, rfl, by simp⟩

end Go.Proofs.Ytalalaepdjmelaa.Pure
