/- The law FnExactLeastByBits holds: for every input the program's LeastByBits returns what the reference's returns, in every field, leaves its arguments as they were, and shares no memory. Conditions: none but those of the given statement. -/
import Derived.Test.YtadckogplkabcaaPrintA3
import Derived.Test.YtadckogplkabcaaPrintA12
import Derived.Test.YtadckogplkabcaaPrintA13
import Derived.Test.YtadckogplkabcaaPrintA14
import Derived.Test.YtadckogplkabcaaPrintA15
import Derived.Test.YtadckogplkabcaaPrintA22
import Derived.Test.YtadckogplkabcaaPrintA23
import Derived.Test.YtadckogplkabcaaPrintA24
namespace Go.Proofs.Ytadckogplkabcaa.Pure
open Go.RowKit Go.Proofs.Ytadckogplkabcaa.PrintA Go.Proofs.YtadckogplkabcaaW.PrintWords Go.Proofs.YtadckogplkabcaaW.PrintLast
set_option linter.unusedVariables false
set_option linter.unusedSimpArgs false

theorem bits_loop (l : List Int) (t : Int) (ht : t ≤ 729) (h : ∀ k, 4 ≤ k → spec_hoCount.f k l = some t) : ∀ (d n : Nat), n + d = 10 →
    ∃ r, spec_LeastByBits.l0 (d + 5) l (n : Int) = some (r, true) ∧ impl_LeastByBits.l0 (d + 5) t true (n : Int) = some (r, true) := by
  intro d
  induction d with
  | zero =>
    intro n hn
    obtain rfl : n = 10 := by omega
    have e : shl .i64 1 ((10 : Nat) : Int) = 1024 := by decide
    refine ⟨10, ?_, ?_⟩
    · simp only [spec_LeastByBits.l0]; rw [if_pos (by omega), h _ (by omega)]; simp only [Option.bind_some]; rw [e, if_neg (by omega)]; rfl
    · simp only [impl_LeastByBits.l0]; rw [if_pos (by omega), e, if_neg (by omega)]; rfl
  | succ d ih =>
    intro n hn
    have e2 : wrap64 ((n : Int) + 1) = ((n + 1 : Nat) : Int) := by unfold wrap64; omega
    by_cases c : shl .i64 1 (n : Int) < t
    · obtain ⟨r, h1, h2⟩ := ih (n + 1) (by omega)
      refine ⟨r, ?_, ?_⟩
      · rw [show d + 1 + 5 = (d + 5) + 1 by omega]; simp only [spec_LeastByBits.l0]; rw [if_pos (by omega), h _ (by omega)]; simp only [Option.bind_some]; rw [if_pos c, e2]; exact h1
      · rw [show d + 1 + 5 = (d + 5) + 1 by omega]; simp only [impl_LeastByBits.l0]; rw [if_pos (by omega), if_pos c, e2]; exact h2
    · refine ⟨n, ?_, ?_⟩
      · rw [show d + 1 + 5 = (d + 5) + 1 by omega]; simp only [spec_LeastByBits.l0]; rw [if_pos (by omega), h _ (by omega)]; simp only [Option.bind_some]; rw [if_neg c]
      · rw [show d + 1 + 5 = (d + 5) + 1 by omega]; simp only [impl_LeastByBits.l0]; rw [if_pos (by omega), if_neg c]
theorem FnExactLeastByBits : laws_FnExactLeastByBits.Pure := by
  intro l hw hl
  obtain ⟨b, h1, h2, h3⟩ := spec_hoGood_is l hl (l.length + 15) (by omega)
  unfold spec_LeastByBits.f impl_LeastByBits.f impl_CountHouseBreaks.f
  cases b with
  | true =>
    obtain ⟨c1, c2, c3⟩ := h3 rfl
    obtain ⟨t, ht, hc⟩ := spec_hoCount_small l c1 c2 c3
    obtain ⟨r, g1, g2⟩ := bits_loop l t ht hc 10 0 (by omega)
    refine ⟨l.length + 15, 15, r, true, ?_, ?_⟩
    · rw [h1]; simp only [Option.bind_some, if_true]
      exact at_rounds (fun k => spec_LeastByBits.mono_l k l 0) (by omega) g1
    · rw [h2]; simp only [Option.bind_some, if_true]; rw [impl_count_is, hc _ (by omega)]; exact g2
  | false =>
    refine ⟨l.length + 15, 15, 0, false, by rw [h1]; simp, ?_⟩
    rw [h2]; simp [impl_LeastByBits.l0, show shl .i64 1 0 = 1 by decide]

end Go.Proofs.Ytadckogplkabcaa.Pure
