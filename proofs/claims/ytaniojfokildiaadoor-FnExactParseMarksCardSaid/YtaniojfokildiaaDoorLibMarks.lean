/- Plain laws on numbers and lists (Marks), without any program. Conditions: those of each lemma. -/
set_option linter.unusedVariables false
set_option linter.unusedSimpArgs false
namespace Go.Proofs.YtaniojfokildiaaDoorLib
/-- Are numbers strictly increasing, above p, and within bounds? -/
def risL (lo hi : Int) : Int → List Int → Bool
  | _, [] => true
  | p, x :: r => (decide (lo ≤ x) && decide (x ≤ hi)) && (decide (p < x) && risL lo hi x r)
theorem risL_mem (lo hi : Int) : ∀ (l : List Int) (p : Int), risL lo hi p l = true → ∀ x ∈ l, lo ≤ x ∧ x ≤ hi
  | [], _, _, x, hx => by simp at hx
  | y :: r, p, h, x, hx => by
    simp only [risL, Bool.and_eq_true, decide_eq_true_eq] at h
    rcases List.mem_cons.1 hx with rfl | hx
    · exact h.1
    · exact risL_mem lo hi r y h.2.2 x hx
theorem risL_length (lo hi : Int) : ∀ (l : List Int) (p : Int), risL lo hi p l = true → p ≤ hi → (l.length : Int) ≤ hi - p
  | [], _, _, hp => by simp; omega
  | y :: r, p, h, hp => by
    simp only [risL, Bool.and_eq_true, decide_eq_true_eq] at h
    have := risL_length lo hi r y h.2.2 h.1.2
    simp only [List.length_cons]
    omega
/-- The greatest of 0 and G 0, .., G (n - 1). -/
def mxF (G : Int → Int) : Nat → Int
  | 0 => 0
  | n + 1 => max (mxF G n) (G n)
theorem mxF_0 (G : Int → Int) : ∀ n, 0 ≤ mxF G n
  | 0 => Int.le_refl _
  | n + 1 => by rw [mxF]; have := mxF_0 G n; omega
theorem mxF_le (G : Int → Int) (B : Int) (hB : 0 ≤ B) (hG : ∀ b : Nat, G b ≤ B) : ∀ n, mxF G n ≤ B
  | 0 => hB
  | n + 1 => by rw [mxF]; have := mxF_le G B hB hG n; have := hG n; omega
theorem risL_snoc (lo hi m : Int) : ∀ (l : List Int) (p : Int), risL lo hi p l = true → (∀ x ∈ l, x < m) → p < m → lo ≤ m → m ≤ hi → risL lo hi p (l ++ [m]) = true
  | [], p, _, _, hp, h1, h2 => by simp [risL, h1, h2, hp]
  | y :: r, p, h, hx, hp, h1, h2 => by
    simp only [risL, Bool.and_eq_true, decide_eq_true_eq] at h
    simp only [List.cons_append, risL, Bool.and_eq_true, decide_eq_true_eq]
    exact ⟨h.1, h.2.1, risL_snoc lo hi m r y h.2.2 (fun x hx' => hx x (List.mem_cons_of_mem _ hx')) (hx y List.mem_cons_self) h1 h2⟩
/-- What is counted behind l by marks from m on, d floors left. -/
def cntM (p : List Int → Int) : Nat → Int → List Int → Int
  | 0, _, _ => 0
  | d + 1, m, l => p (l ++ [m]) + cntM p d (m + 1) (l ++ [m]) + cntM p d (m + 1) l
theorem cntM_step (p : List Int → Int) (d : Nat) (m : Int) (l : List Int) : cntM p (d + 1) m l = p (l ++ [m]) + cntM p d (m + 1) (l ++ [m]) + cntM p d (m + 1) l := rfl
theorem cntM_range (p : List Int → Int) (hp : ∀ l, 0 ≤ p l ∧ p l ≤ 1) : ∀ (d : Nat) (m : Int) (l : List Int), 0 ≤ cntM p d m l ∧ cntM p d m l + 1 ≤ 2 ^ d
  | 0, _, _ => by simp [cntM]
  | d + 1, m, l => by
    have h1 := cntM_range p hp d (m + 1) (l ++ [m])
    have h2 := cntM_range p hp d (m + 1) l
    have h3 := hp (l ++ [m])
    rw [cntM_step, Int.pow_succ]
    omega
/-- All marks behind l by marks from m on, in order. -/
def rowsM : Nat → Int → List Int → List (List Int)
  | 0, _, _ => []
  | d + 1, m, l => ((l ++ [m]) :: rowsM d (m + 1) (l ++ [m])) ++ rowsM d (m + 1) l
theorem rowsM_step (d : Nat) (m : Int) (l : List Int) : rowsM (d + 1) m l = ((l ++ [m]) :: rowsM d (m + 1) (l ++ [m])) ++ rowsM d (m + 1) l := rfl
theorem rowsM_len : ∀ (d : Nat) (m : Int) (l : List Int), (rowsM d m l).length + 1 = 2 ^ d
  | 0, _, _ => rfl
  | d + 1, m, l => by
    have h1 := rowsM_len d (m + 1) (l ++ [m])
    have h2 := rowsM_len d (m + 1) l
    rw [rowsM_step, List.length_append, List.length_cons, Nat.pow_succ]
    omega
def sumP (p : List Int → Int) : List (List Int) → Int
  | [] => 0
  | x :: r => p x + sumP p r
theorem sumP_append (p : List Int → Int) : ∀ a b, sumP p (a ++ b) = sumP p a + sumP p b
  | [], b => by simp [sumP]
  | x :: r, b => by rw [List.cons_append, sumP, sumP, sumP_append p r b]; omega
theorem sumP_rows (p : List Int → Int) : ∀ (d : Nat) (m : Int) (l : List Int), sumP p (rowsM d m l) = cntM p d m l
  | 0, _, _ => rfl
  | d + 1, m, l => by
    rw [rowsM_step, sumP_append, sumP, sumP_rows p d, sumP_rows p d, cntM_step]
theorem rowsM_ris (hi : Int) : ∀ (d : Nat) (m : Int) (l : List Int), risL 1 hi 0 l = true → (∀ x ∈ l, x < m) → 1 ≤ m → m + d ≤ hi + 1 → ∀ r ∈ rowsM d m l, risL 1 hi 0 r = true
  | 0, _, _, _, _, _, _, r, hr => by simp [rowsM] at hr
  | d + 1, m, l, h, hx, h1, h2, r, hr => by
    have hs := risL_snoc 1 hi m l 0 h hx (by omega) h1 (by omega)
    have hx2 : ∀ x ∈ l ++ [m], x < m + 1 := by
      intro x hx'
      rcases List.mem_append.1 hx' with hx' | hx'
      · have := hx x hx'; omega
      · rw [List.mem_singleton] at hx'; omega
    rw [rowsM_step, List.mem_append, List.mem_cons] at hr
    rcases hr with (rfl | hr) | hr
    · exact hs
    · exact rowsM_ris hi d (m + 1) (l ++ [m]) hs hx2 (by omega) (by omega) r hr
    · exact rowsM_ris hi d (m + 1) l h (fun x hx' => by have := hx x hx'; omega) (by omega) (by omega) r hr

end Go.Proofs.YtaniojfokildiaaDoorLib
