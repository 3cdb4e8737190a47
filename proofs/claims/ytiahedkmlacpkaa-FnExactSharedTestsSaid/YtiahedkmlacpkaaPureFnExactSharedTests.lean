/- The law FnExactSharedTests holds: for every input the program's SharedTests returns what the reference's returns, in every field, leaves its arguments as they were, and shares no memory. Conditions: none but those of the given statement. -/
import Derived.Test.YtiahedkmlacpkaaPrintZ1
import Derived.Test.YtiahedkmlacpkaaPrintZ2
import Derived.Test.YtiahedkmlacpkaaPrintZ5
import Derived.Test.YtiahedkmlacpkaaPrintZ6
import Derived.Test.YtiahedkmlacpkaaPrintZ9
import Derived.Test.YtiahedkmlacpkaaPrintZ10
import Derived.Test.YtiahedkmlacpkaaPrintZ12
namespace Go.Proofs.Ytiahedkmlacpkaa.Pure
open Go.RowKit Go.Proofs.Ytiahedkmlacpkaa.PrintZ Go.Proofs.YtiahedkmlacpkaaW.PrintWords Go.Proofs.YtiahedkmlacpkaaW.PrintLast
set_option linter.unusedVariables false
set_option linter.unusedSimpArgs false

theorem spec_hoShared_l0 (l0 l1 : List Int) (hl : l1.length = l0.length) (h3 : l0.length ≤ 3) (h0 : ∀ x ∈ l0, 0 ≤ x ∧ x ≤ 8) (h1 : ∀ x ∈ l1, 0 ≤ x ∧ x ≤ 10) : ∀ (d k i : Nat) (s : Int), l0.length - i = d → i ≤ l0.length → 20000 + d < k → 0 ≤ s → s ≤ 1000 * i →
    spec_hoShared.l0 k l1 s l0 (l0.length : Int) (i : Int) = some (shL (l0.drop i) (l1.drop i) s) := by
  intro d
  induction d with
  | zero =>
    intro k i s hd hi hk hs hs1
    obtain ⟨k, rfl⟩ : ∃ m, k = m + 1 := ⟨k - 1, by omega⟩
    rw [spec_hoShared.l0, if_neg (by omega), List.drop_of_length_le (by omega)]
    rfl
  | succ d ih =>
    intro k i s hd hi hk hs hs1
    obtain ⟨k, rfl⟩ : ∃ m, k = m + 1 := ⟨k - 1, by omega⟩
    have hlt : i < l0.length := by omega
    have hlt1 : i < l1.length := by omega
    have e0 : rd l0 (i : Int) = l0[i] := by simp [rd, List.getD_eq_getElem?_getD, hlt]
    have e1 : rd l1 (i : Int) = l1[i] := by simp [rd, List.getD_eq_getElem?_getD, hlt1]
    have b0 := h0 _ (List.getElem_mem hlt)
    have b1 := h1 _ (List.getElem_mem hlt1)
    rw [← e0] at b0
    rw [← e1] at b1
    have hih := fun s => ih k (i + 1) s (by omega) (by omega) (by omega)
    have e2 : wrap64 ((i : Int) + 1) = ((i + 1 : Nat) : Int) := by clear e0 e1; unfold wrap64; omega
    rw [spec_hoShared.l0, if_pos (show (i : Int) < (l0.length : Int) by clear e2; omega), if_pos (show (0 : Int) ≤ (i : Int) by clear e2; omega), if_pos (show (i : Int) < (l0.length : Int) by clear e2; omega), drop_rd l0 i hlt, drop_rd l1 i hlt1, shL, e2]
    by_cases hz : rd l0 (i : Int) = 0
    · rw [if_pos hz, if_neg (show ¬ 0 < rd l0 (i : Int) by clear e2; omega)]
      exact hih s hs (by clear e2; omega)
    · rw [if_neg hz, if_pos (show (i : Int) < (l1.length : Int) by clear e2; omega), if_pos (show 0 < rd l0 (i : Int) by clear e2; omega)]
      by_cases hq : rd l1 (i : Int) = 0
      · rw [if_pos hq, if_pos hq]
      · rw [if_neg hq, if_neg hq]
        obtain ⟨q, hq'⟩ : ∃ q : Nat, rd l1 (i : Int) = q := ⟨(rd l1 (i : Int)).toNat, by clear e2; omega⟩
        have hf := few_le q (rd l0 (i : Int))
        have hw : ∀ f : Nat, f ≤ 1000 → wrap64 (s + (f : Int)) = s + f := fun f hf => by clear e2; unfold wrap64; omega
        rw [hq', spec_flFew_is q _ (by clear e2; omega) (by clear e2; omega) (by clear e2; omega) k (by clear e2; omega), Option.bind_some, hw _ hf, Int.toNat_natCast]
        exact hih _ (by clear e2; omega) (by clear e2; omega)
theorem FnExactSharedTests : laws_FnExactSharedTests.Pure := by
  intro l0 l1 hw0 hw1 hl
  obtain ⟨b, hb1, hb2, hb3⟩ := spec_hoGood_is l0 (by omega) 1100000 (by omega)
  have ha := spec_l1All_is l1 0 10 (by omega) 1100000 (by omega)
  have hany : (!(l1.any (outIn 0 10))) = l1.all (fun x => decide (0 ≤ x) && decide (x ≤ 10)) := outIn_all 0 10 l1
  have hgood : b = goodH l0 := by
    unfold impl_AreHouses.f at hb2
    rw [if_pos (by omega)] at hb2
    exact (Option.some.inj hb2).symm
  unfold spec_SharedTests.f impl_SharedTests.f
  rw [if_pos ⟨by omega, by omega⟩]
  refine ⟨1100000, ?_⟩
  rw [hb1, Option.bind_some, ← hgood]
  cases b with
  | false => exact ⟨0, false, rfl, rfl⟩
  | true =>
    obtain ⟨g1, g2, g3⟩ := hb3 rfl
    rw [if_pos rfl, if_pos rfl]
    by_cases he : l1.length = l0.length
    · rw [if_pos (by omega), if_pos he, ha, Option.bind_some, ← hany]
      by_cases hz : l1.any (outIn 0 10) = true
      · rw [hz]; exact ⟨0, false, rfl, rfl⟩
      · rw [if_neg hz]
        have hx : l1.all (fun x => decide (0 ≤ x) && decide (x ≤ 10)) = true := by rw [← hany, Bool.eq_false_iff.mpr hz]; rfl
        rw [List.all_eq_true] at hx
        have h1 : ∀ x ∈ l1, 0 ≤ x ∧ x ≤ 10 := fun x hm => by have := hx x hm; simpa using this
        have hs := spec_hoShared_l0 l0 l1 he g2 g3 h1 l0.length 1100000 0 0 (by omega) (by omega) (by omega) (by omega) (by omega)
        refine ⟨(shL l0 l1 0).1, (shL l0 l1 0).2, ?_, rfl⟩
        rw [Bool.eq_false_iff.mpr hz]
        simp only [Bool.not_false, if_true]
        unfold spec_hoShared.f
        have hs' : spec_hoShared.l0 1100000 l1 0 l0 (l0.length : Int) 0 = some (shL l0 l1 0) := hs
        rw [hs']; rfl
    · rw [if_neg (by omega), if_neg he]
      exact ⟨0, false, rfl, rfl⟩

end Go.Proofs.Ytiahedkmlacpkaa.Pure
