/- The law FnExactBestShares holds: for every input the program's BestShares returns what the reference's returns, in every field, leaves its arguments as they were, and shares no memory. Conditions: none but those of the given statement. -/
import Derived.Test.YtiahedkmlacpkaaPrintS8
import Derived.Test.YtiahedkmlacpkaaPrintS12
import Derived.Test.YtiahedkmlacpkaaPrintS13
import Derived.Test.YtiahedkmlacpkaaPrintS18
import Derived.Test.YtiahedkmlacpkaaPrintS19
import Derived.Test.YtiahedkmlacpkaaPrintS20
import Derived.Test.YtiahedkmlacpkaaLibHouses
import Derived.Test.YtiahedkmlacpkaaLibShares
namespace Go.Proofs.Ytiahedkmlacpkaa.Pure
open Go.RowKit Go.Proofs.Ytiahedkmlacpkaa.PrintS Go.Proofs.YtiahedkmlacpkaaW.PrintWords Go.Proofs.YtiahedkmlacpkaaW.PrintLast Go.Proofs.YtiahedkmlacpkaaLib
set_option linter.unusedVariables false
set_option linter.unusedSimpArgs false

-- LIB Houses
-- LIB Shares
theorem sFold_len (sh : List Int → Int × Bool) (E : Int) (m : Nat) : ∀ (L : List (List Int)) (a : List Int × Int), (∀ c ∈ L, c.length ≤ m) → a.1.length ≤ m → (L.foldl (sStep sh E) a).1.length ≤ m
  | [], _, _, h => h
  | c :: r, a, h, ha => by
    rw [List.foldl_cons]
    refine sFold_len sh E m r _ (fun x hx => h x (List.mem_cons_of_mem _ hx)) ?_
    unfold sStep
    split
    · split
      · exact h c List.mem_cons_self
      · exact ha
    · exact ha
theorem FnExactBestShares : laws_FnExactBestShares.Pure := by
  intro e l _ _ hl
  refine ⟨l.length + 30000, ?_⟩
  unfold spec_BestShares.f impl_BestShares.f
  rw [hoAsked_is e l hl (l.length + 30000) (by omega), Option.bind_some, if_pos hl]
  cases hg : hAsk e l with
  | false => exact ⟨[], 0, false, rfl, rfl, by simp⟩
  | true =>
    obtain ⟨g1, g2, g3, g4, g5⟩ := hAsk_true hg
    have hnn := hNeed_nonneg l
    obtain ⟨q, rfl⟩ : ∃ q : Nat, e = (q : Int) := ⟨e.toNat, by omega⟩
    have hb := (sBest_is q l g1 g3 g2 (by omega)).1
    have e0 : ((q : Int)).toNat = q := by omega
    have e1 : sBest ((q : Int)).toNat l = sHs (fun c => shL l c 0) l.length q [] := by
      rw [e0]; exact hb
    have hs := hoShares_is l g2 g3 l.length q [] (l.length + 30000) (by simp) (fun x hx => by cases hx) (by omega) (by omega)
    rw [if_pos rfl, hs, Option.bind_some, if_pos rfl, e1]
    refine ⟨_, _, _, rfl, rfl, ?_⟩
    rw [← hb]
    refine Nat.le_trans (sFold_len _ _ 3 _ _ (fun c hc => ?_) (by simp)) (by omega)
    rw [sAll_eq] at hc
    rw [((sx_mem q l.length c).1 hc).1]
    exact g2

end Go.Proofs.Ytiahedkmlacpkaa.Pure
