/- Plain laws on numbers and lists (Play), without any program. Conditions: those of each lemma. -/
set_option linter.unusedVariables false
set_option linter.unusedSimpArgs false
namespace Go.Proofs.YtfelkkonjbhkjaaLib
/-- How many drops a plan needs that drops first from F. -/
def plN (F : Nat → Int → Int) : Nat → Nat → Int → Int → Nat
  | 0, _, _, _ => 0
  | k + 1, e, n, b => if 0 < n then (if F e n > b then plN F k (e - 1) (F e n - 1) b + 1 else plN F k e (n - F e n) (b - F e n) + 1) else 0
theorem plN_fuel (F : Nat → Int → Int) (hF : ∀ e n, 1 ≤ n → 1 ≤ F e n ∧ F e n ≤ n) : ∀ (k k' e : Nat) (n b : Int), n ≤ k → n ≤ k' → plN F k e n b = plN F k' e n b
  | 0, 0, _, _, _, _, _ => rfl
  | 0, k' + 1, e, n, b, h1, _ => by rw [plN, plN, if_neg (by omega)]
  | k + 1, 0, e, n, b, _, h2 => by rw [plN, plN, if_neg (by omega)]
  | k + 1, k' + 1, e, n, b, h1, h2 => by
    rw [plN, plN]
    by_cases hn : 0 < n
    · have hr := hF e n (by omega)
      rw [if_pos hn, if_pos hn, plN_fuel F hF k k' (e - 1) (F e n - 1) b (by omega) (by omega), plN_fuel F hF k k' e (n - F e n) (b - F e n) (by omega) (by omega)]
    · rw [if_neg hn, if_neg hn]
theorem plN_le (F : Nat → Int → Int) : ∀ (k e : Nat) (n b : Int), plN F k e n b ≤ k
  | 0, _, _, _ => Nat.le_refl _
  | k + 1, e, n, b => by
    rw [plN]
    have h1 := plN_le F k (e - 1) (F e n - 1) b
    have h2 := plN_le F k e (n - F e n) (b - F e n)
    split
    · split <;> omega
    · omega
/-- How many drops there are for each break. -/
def cntL (F : Nat → Int → Int) (e n : Nat) : List Int := (List.range (n + 1)).map (fun (b : Nat) => (plN F n e n b : Int))
theorem cntL_length (F : Nat → Int → Int) (e n : Nat) : (cntL F e n).length = n + 1 := by simp [cntL]
theorem cntL_zero (F : Nat → Int → Int) (e : Nat) : cntL F e 0 = [0] := rfl
theorem cntL_get (F : Nat → Int → Int) (e n i : Nat) (h : i < (cntL F e n).length) : (cntL F e n)[i] = (plN F n e n i : Int) := by simp [cntL]
theorem cntL_step (F : Nat → Int → Int) (hF : ∀ e n, 1 ≤ n → 1 ≤ F e n ∧ F e n ≤ n) (e n f : Nat) (hn : 1 ≤ n) (hf : F e n = f) :
    cntL F e n = (cntL F (e - 1) (f - 1) ++ cntL F e (n - f)).map (fun x => x + 1) := by
  have hr := hF e n (by omega)
  rw [hf] at hr
  apply List.ext_getElem
  · simp [cntL_length]; omega
  · intro i h1 h2
    rw [cntL_length] at h1
    rw [List.getElem_map, cntL_get, List.getElem_append]
    obtain ⟨m, rfl⟩ : ∃ m, n = m + 1 := ⟨n - 1, by omega⟩
    rw [plN, if_pos (by omega), hf]
    by_cases h : i < f
    · rw [if_pos (by omega), dif_pos (by rw [cntL_length]; omega), cntL_get, plN_fuel F hF m (f - 1) (e - 1) ((f : Int) - 1) i (by omega) (by omega), show ((f : Int) - 1) = ((f - 1 : Nat) : Int) by omega]
      omega
    · rw [if_neg (by omega), dif_neg (by rw [cntL_length]; omega), cntL_get, plN_fuel F hF m (m + 1 - f) e _ _ (by omega) (by omega)]
      simp only [cntL_length]
      rw [show (((m + 1 : Nat) : Int) - (f : Int)) = ((m + 1 - f : Nat) : Int) by omega, show ((i : Int) - (f : Int)) = ((i - (f - 1 + 1) : Nat) : Int) by omega]
      omega

end Go.Proofs.YtfelkkonjbhkjaaLib
