/- Plain laws on numbers and lists (Marks), without any program. Conditions: those of each lemma. -/
set_option linter.unusedVariables false
set_option linter.unusedSimpArgs false
namespace Go.Proofs.YtalalaepdjmelaaLib
/-- Are numbers strictly increasing, above p, and within bounds? -/
def risL (lo hi : Int) : Int → List Int → Bool
  | _, [] => true
  | p, x :: r => (decide (lo ≤ x) && decide (x ≤ hi)) && (decide (p < x) && risL lo hi x r)
theorem risL_mem (lo hi : Int) : ∀ (l : List Int) (p : Int), risL lo hi p l = true → ∀ x ∈ l, lo ≤ x ∧ x ≤ hi
  | [], _, _, x, hx => by simp at hx
  | y :: r, p, h, x, hx => by
    simp only [risL, Bool.and_eq_true, decide_eq_true_eq] at h
    rcases List.mem_cons.1 hx with rfl | hx
    · exact h.1
    · exact risL_mem lo hi r y h.2.2 x hx
theorem risL_length (lo hi : Int) : ∀ (l : List Int) (p : Int), risL lo hi p l = true → p ≤ hi → (l.length : Int) ≤ hi - p
  | [], _, _, hp => by simp; omega
  | y :: r, p, h, hp => by
    simp only [risL, Bool.and_eq_true, decide_eq_true_eq] at h
    have := risL_length lo hi r y h.2.2 h.1.2
    simp only [List.length_cons]
    omega

end Go.Proofs.YtalalaepdjmelaaLib
