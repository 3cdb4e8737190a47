/- Plain laws on numbers and lists (Choose), without any program. Conditions: those of each lemma. -/
set_option linter.unusedVariables false
set_option linter.unusedSimpArgs false
namespace Go.Proofs.YtfelkkonjbhkjaaLib
/-- How many ways there are to choose k of t. -/
def chs : Nat → Nat → Int
  | _, 0 => 1
  | 0, _ + 1 => 0
  | t + 1, k + 1 => chs t k + chs t (k + 1)
theorem chs_id : ∀ (t k : Nat), ((k : Int) + 1) * chs t (k + 1) = ((t : Int) - k) * chs t k
  | 0, 0 => by simp [chs]
  | 0, k + 1 => by simp [chs]
  | t + 1, 0 => by
    have h := chs_id t 0
    simp only [chs] at h ⊢
    grind
  | t + 1, j + 1 => by
    have h1 := chs_id t j
    have h2 := chs_id t (j + 1)
    simp only [chs]
    generalize chs t (j + 1 + 1) = c at *
    generalize chs t (j + 1) = b at *
    generalize chs t j = a at *
    have e1 : ((t + 1 : Nat) : Int) = (t : Int) + 1 := by omega
    have e2 : ((j + 1 : Nat) : Int) = (j : Int) + 1 := by omega
    rw [e1, e2] at *
    grind
theorem chs_nonneg : ∀ t k, 0 ≤ chs t k
  | _, 0 => by simp [chs]
  | 0, _ + 1 => by simp [chs]
  | t + 1, k + 1 => by have := chs_nonneg t k; have := chs_nonneg t (k + 1); simp only [chs]; omega
theorem chs_far : ∀ t k, t < k → chs t k = 0
  | _, 0, h => by omega
  | 0, _ + 1, _ => rfl
  | t + 1, k + 1, h => by simp only [chs]; rw [chs_far t k (by omega), chs_far t (k + 1) (by omega)]; rfl
def sumC (t : Nat) : Nat → Int
  | 0 => 0
  | e + 1 => sumC t e + chs t (e + 1)
theorem sumC_step (t : Nat) : ∀ e, sumC (t + 1) (e + 1) = sumC t e + sumC t (e + 1) + 1
  | 0 => by simp only [sumC, chs]; omega
  | e + 1 => by
    have h := sumC_step t e
    have h1 : sumC (t + 1) (e + 1 + 1) = sumC (t + 1) (e + 1) + chs (t + 1) (e + 1 + 1) := rfl
    have h2 : sumC t (e + 1 + 1) = sumC t (e + 1) + chs t (e + 1 + 1) := rfl
    have h3 : sumC t (e + 1) = sumC t e + chs t (e + 1) := rfl
    have h4 : chs (t + 1) (e + 1 + 1) = chs t (e + 1) + chs t (e + 1 + 1) := rfl
    omega
theorem sumC_nonneg (t : Nat) : ∀ e, 0 ≤ sumC t e
  | 0 => Int.le_refl _
  | e + 1 => by have := sumC_nonneg t e; have := chs_nonneg t (e + 1); simp only [sumC]; omega
theorem sumC_zero : ∀ e, sumC 0 e = 0
  | 0 => rfl
  | e + 1 => by simp only [sumC, sumC_zero e, chs]; rfl
theorem sumC_far (t : Nat) : ∀ e, t ≤ e → sumC t e = sumC t t
  | e, h => by
    induction h with
    | refl => rfl
    | step hm ih => rw [sumC, ih, chs_far t _ (Nat.lt_succ_of_le hm)]; omega
theorem sumC_chs (t : Nat) : ∀ e k, 1 ≤ k → k ≤ e → chs t k ≤ sumC t e
  | 0, k, h1, h2 => by omega
  | e + 1, k, h1, h2 => by
    have := sumC_nonneg t e
    have := chs_nonneg t (e + 1)
    simp only [sumC]
    by_cases h : k = e + 1
    · subst h; omega
    · have := sumC_chs t e k h1 (by omega); omega

end Go.Proofs.YtfelkkonjbhkjaaLib
