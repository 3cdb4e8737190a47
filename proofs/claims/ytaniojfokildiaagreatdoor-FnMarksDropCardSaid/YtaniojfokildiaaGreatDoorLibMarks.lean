/- Plain laws on numbers and lists (Marks), without any program. Conditions: those of each lemma. -/
set_option linter.unusedVariables false
set_option linter.unusedSimpArgs false
namespace Go.Proofs.YtaniojfokildiaaGreatDoorLib
/-- Are numbers strictly increasing, above p, and within bounds? -/
def risL (lo hi : Int) : Int → List Int → Bool
  | _, [] => true
  | p, x :: r => (decide (lo ≤ x) && decide (x ≤ hi)) && (decide (p < x) && risL lo hi x r)
theorem risL_mem (lo hi : Int) : ∀ (l : List Int) (p : Int), risL lo hi p l = true → ∀ x ∈ l, lo ≤ x ∧ x ≤ hi
  | [], _, _, x, hx => by simp at hx
  | y :: r, p, h, x, hx => by
    simp only [risL, Bool.and_eq_true, decide_eq_true_eq] at h
    rcases List.mem_cons.1 hx with rfl | hx
    · exact h.1
    · exact risL_mem lo hi r y h.2.2 x hx
theorem risL_length (lo hi : Int) : ∀ (l : List Int) (p : Int), risL lo hi p l = true → p ≤ hi → (l.length : Int) ≤ hi - p
  | [], _, _, hp => by simp; omega
  | y :: r, p, h, hp => by
    simp only [risL, Bool.and_eq_true, decide_eq_true_eq] at h
    have := risL_length lo hi r y h.2.2 h.1.2
    simp only [List.length_cons]
    omega
/-- The greatest of 0 and G 0, .., G (n - 1). -/
def mxF (G : Int → Int) : Nat → Int
  | 0 => 0
  | n + 1 => max (mxF G n) (G n)
theorem mxF_0 (G : Int → Int) : ∀ n, 0 ≤ mxF G n
  | 0 => Int.le_refl _
  | n + 1 => by rw [mxF]; have := mxF_0 G n; omega
end Go.Proofs.YtaniojfokildiaaGreatDoorLib
