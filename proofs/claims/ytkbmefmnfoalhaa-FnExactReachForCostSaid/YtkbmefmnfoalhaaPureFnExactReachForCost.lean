/- The law FnExactReachForCost holds: for every input the program's ReachForCost returns what the reference's returns, in every field, leaves its arguments as they were, and shares no memory. Conditions: none but those of the given statement. -/
import Derived.Test.YtkbmefmnfoalhaaPrintC1
import Derived.Test.YtkbmefmnfoalhaaPrintC6
import Derived.Test.YtkbmefmnfoalhaaPrintC15
import Derived.Test.YtkbmefmnfoalhaaPrintC21
import Derived.Test.YtkbmefmnfoalhaaPrintC34
import Derived.Test.YtkbmefmnfoalhaaPrintC36
import Derived.Test.YtkbmefmnfoalhaaPrintC37
namespace Go.Proofs.Ytkbmefmnfoalhaa.Pure
open Go.RowKit Go.Proofs.Ytkbmefmnfoalhaa.PrintC Go.Proofs.YtkbmefmnfoalhaaW.PrintWords Go.Proofs.YtkbmefmnfoalhaaW.PrintLast Go.Proofs.YtkbmefmnfoalhaaLib
set_option linter.unusedVariables false
set_option linter.unusedSimpArgs false

theorem rF_is (E T C : Int) (e : Nat) (c : Int) : ∀ (d r : Nat), (∀ j, j ≤ r → cst E T C e j 0 ≤ c) → r ≤ rF E T C e c d r ∧ rF E T C e c d r ≤ r + d ∧ (∀ j, j ≤ rF E T C e c d r → cst E T C e j 0 ≤ c) ∧ (rF E T C e c d r < r + d → c < cst E T C e (rF E T C e c d r + 1) 0)
  | 0, r, h => by
    have e1 : rF E T C e c 0 r = r := rfl
    rw [e1]; exact ⟨Nat.le_refl _, Nat.le_refl _, h, fun h => absurd h (by omega)⟩
  | d + 1, r, h => by
    rw [rF_step]
    by_cases hc : cst E T C e (r + 1) 0 ≤ c
    · rw [if_pos hc]
      have ih := rF_is E T C e c d (r + 1) (fun j hj => by
        by_cases hj2 : j = r + 1
        · subst hj2; exact hc
        · exact h j (by omega))
      exact ⟨by omega, by omega, ih.2.2.1, fun hlt => ih.2.2.2 (by omega)⟩
    · rw [if_neg hc]
      exact ⟨Nat.le_refl _, by omega, h, fun _ => by omega⟩
theorem tabI_getD (E T C : Int) (e n j : Nat) (h : j < n) : (tabI E T C e n).getD j 0 = cst E T C e j 0 := by
  simp [tabI, List.getD_eq_getElem?_getD, h]
theorem rI_rF (E T C : Int) (e : Nat) (c : Int) (hc : 0 ≤ c) : rI E T C e c = (rF E T C e c 60 0 : Nat) := by
  have h := rF_is E T C e c 60 0 (fun j hj => by
    obtain rfl : j = 0 := by omega
    rw [cst_zero]; exact hc)
  unfold rI
  generalize rF E T C e c 60 0 = R at h ⊢
  obtain ⟨_, h1, h2, h3⟩ := h
  by_cases hR : R = 60
  · subst hR
    rw [idxOf_miss _ (tabI E T C e 61) 0 (fun j hj => by
      rw [tabI_len] at hj
      have := h2 j (by omega)
      rw [tabI_getD _ _ _ _ _ _ hj]
      simp; omega)]
    rfl
  · rw [idxOf_hit _ (tabI E T C e 61) 0 (R + 1) (by rw [tabI_len]; omega) (by
      rw [tabI_getD _ _ _ _ _ _ (by omega)]; simp; exact h3 (by omega)) (fun j hj => by
      have := h2 j (by omega)
      rw [tabI_getD _ _ _ _ _ _ (by omega)]
      simp; omega)]
    rw [if_neg (by omega)]; omega
theorem FnExactReachForCost : laws_FnExactReachForCost.Pure := by
  intro p q r a c _ _ _ _ _
  have h : spec_ReachForCost.f 11 p q r a c = impl_ReachForCost.f p q r a c := by
    unfold spec_ReachForCost.f impl_ReachForCost.f
    rw [asked_is p q r a 0 11 (by omega), costly_is]
    congr 1
    funext t
    by_cases hc : 0 ≤ c ∧ c ≤ 1000000000
    · rw [if_pos hc, if_pos hc, rI_rF _ _ _ _ _ hc.1]
    · rw [if_neg hc, if_neg hc]
  obtain ⟨x, y, h2⟩ : ∃ x y, impl_ReachForCost.f p q r a c = some (x, y) := by
    unfold impl_ReachForCost.f
    rw [costly_is, Option.bind_some]
    split
    · split
      · exact ⟨_, _, rfl⟩
      · exact ⟨_, _, rfl⟩
    · exact ⟨_, _, rfl⟩
  exact ⟨11, x, y, h.trans h2, h2⟩

end Go.Proofs.Ytkbmefmnfoalhaa.Pure
