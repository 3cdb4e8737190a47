/- The law FnExactCostOfPlay holds: for every input the program's CostOfPlay returns what the reference's returns, in every field, leaves its arguments as they were, and shares no memory. Conditions: none but those of the given statement. -/
import Derived.Test.YtiahedkmlacpkaaPrintY1
import Derived.Test.YtiahedkmlacpkaaPrintY7
import Derived.Test.YtiahedkmlacpkaaPrintY8
import Derived.Test.YtiahedkmlacpkaaPrintY9
import Derived.Test.YtiahedkmlacpkaaPrintY10
import Derived.Test.YtiahedkmlacpkaaPrintY11
import Derived.Test.YtiahedkmlacpkaaPrintY12
import Derived.Test.YtiahedkmlacpkaaPrintY13
import Derived.Test.YtiahedkmlacpkaaPrintY14
import Derived.Test.YtiahedkmlacpkaaPrintY15
import Derived.Test.YtiahedkmlacpkaaPrintY16
import Derived.Test.YtiahedkmlacpkaaPrintY17
namespace Go.Proofs.Ytiahedkmlacpkaa.Pure
open Go.RowKit Go.Proofs.Ytiahedkmlacpkaa.PrintY Go.Proofs.YtiahedkmlacpkaaW.PrintWords Go.Proofs.YtiahedkmlacpkaaW.PrintLast Go.Proofs.YtiahedkmlacpkaaLib
set_option linter.unusedVariables false
set_option linter.unusedSimpArgs false

theorem LeO_add0 {α : Type} {g : Nat → Option α} (h : ∀ k, LeO (g k) (g (k + 1))) (k : Nat) : ∀ m, LeO (g k) (g (k + m))
  | 0 => LeO.refl _
  | m + 1 => LeO.trans (LeO_add0 h k m) (h (k + m))
theorem LeO_add' {α : Type} {g : Nat → Option α} (h : ∀ k, LeO (g k) (g (k + 1))) (k m : Nat) (hm : k ≤ m) : LeO (g k) (g m) := by
  obtain ⟨d, rfl⟩ : ∃ d, m = k + d := ⟨m - k, by omega⟩
  exact LeO_add0 h k d
theorem broken_same2 (l : List S56) : ∀ (k : Nat) (i c n : Int), spec_flBroken.l0 k c l n i = impl_countBroken.l0 k c l n i
  | 0, _, _, _ => rfl
  | k + 1, i, c, n => by
    rw [spec_flBroken.l0, impl_countBroken.l0, broken_same2 l k, broken_same2 l k]
theorem climbs_same (l : List S56) (n : Int) (hx : ∀ x ∈ l, 0 ≤ x.f0 ∧ x.f0 ≤ 1000) : ∀ (k : Nat) (i c a : Int), 0 ≤ a → a ≤ 1000 → spec_csClimbs.l0 k c a l n i = impl_climbs.l0 k c a l n i
  | 0, _, _, _, _, _ => rfl
  | k + 1, i, c, a, h0, h1 => by
    rw [spec_csClimbs.l0, impl_climbs.l0]
    by_cases c1 : i < n
    · rw [if_pos c1, if_pos c1]
      by_cases c2 : 0 ≤ i
      · rw [if_pos c2, if_pos c2]
        by_cases c3 : i < (l.length : Int)
        · rw [if_pos c3, if_pos c3]
          have hm : rd_T56 l i ∈ l := by
            have hlt : i.toNat < l.length := by omega
            have : rd_T56 l i = l[i.toNat] := by simp [rd_T56, List.getD_eq_getElem?_getD, hlt]
            rw [this]; exact List.getElem_mem hlt
          have hb := hx _ hm
          generalize (rd_T56 l i).f0 = y at hb ⊢
          have e : spec_l1Abs.f (wrap64 (y - a)) = some (mx (wrap64 (y - a)) (wrap64 (a - y))) := by
            unfold spec_l1Abs.f
            have e1 : wrap64 (y - a) = y - a := by unfold wrap64; omega
            have e2 : wrap64 (-(y - a)) = a - y := by clear e1; unfold wrap64; omega
            have e3 : wrap64 (a - y) = a - y := by clear e1 e2; unfold wrap64; omega
            rw [e1, e2, e3, spec_l1Most_is, Option.bind_some]
            clear e1 e2 e3
            unfold mx; congr 1; omega
          rw [e, Option.bind_some, climbs_same l n hx k _ _ y (by omega) (by omega)]
        · rw [if_neg c3, if_neg c3]
      · rw [if_neg c2, if_neg c2]
    · rw [if_neg c1, if_neg c1]
theorem playF_mem (F : Nat → Int → Int) (hF : ∀ e n, 1 ≤ n → 1 ≤ F e n ∧ F e n ≤ n) (b N : Int) : ∀ (k e : Nat) (n low : Int) (acc : List S56), 0 ≤ low → 0 ≤ n → low + n ≤ N → (∀ x ∈ acc, 0 ≤ x.f0 ∧ x.f0 ≤ N) → ∀ x ∈ playF F b k e n low acc, 0 ≤ x.f0 ∧ x.f0 ≤ N
  | 0, _, _, _, acc, _, _, _, h => h
  | k + 1, e, n, low, acc, h0, h1, h2, h => by
    rw [playF]
    by_cases hn : 0 < n
    · have hf := hF e n (by omega)
      rw [if_pos hn]
      by_cases hb : low + F e n > b
      · rw [if_pos hb]
        exact playF_mem F hF b N k (e - 1) (F e n - 1) low _ h0 (by omega) (by omega) (by
          intro x hx; rw [List.mem_append] at hx
          rcases hx with hx | hx
          · exact h x hx
          · simp only [List.mem_singleton] at hx; subst hx; exact ⟨by show 0 ≤ low + F e n; omega, by show low + F e n ≤ N; omega⟩)
      · rw [if_neg hb]
        exact playF_mem F hF b N k e (n - F e n) (low + F e n) _ (by omega) (by omega) (by omega) (by
          intro x hx; rw [List.mem_append] at hx
          rcases hx with hx | hx
          · exact h x hx
          · simp only [List.mem_singleton] at hx; subst hx; exact ⟨by show 0 ≤ low + F e n; omega, by show low + F e n ≤ N; omega⟩)
    · rw [if_neg hn]; exact h
theorem countBroken_some (l : List S56) (hl : l.length ≤ 1000000) : ∀ (d k i : Nat) (c : Int), l.length - i = d → i ≤ l.length → d < k → ∃ r, impl_countBroken.l0 k c l (l.length : Int) i = some r := by
  intro d
  induction d with
  | zero =>
    intro k i c hd hi hk
    obtain ⟨k, rfl⟩ : ∃ m, k = m + 1 := ⟨k - 1, by omega⟩
    exact ⟨c, by rw [impl_countBroken.l0, if_neg (by omega)]⟩
  | succ d ih =>
    intro k i c hd hi hk
    obtain ⟨k, rfl⟩ : ∃ m, k = m + 1 := ⟨k - 1, by omega⟩
    have e2 : wrap64 ((i : Int) + 1) = ((i + 1 : Nat) : Int) := by unfold wrap64; omega
    rw [impl_countBroken.l0, if_pos (by clear e2; omega), if_pos (by clear e2; omega), if_pos (by clear e2; omega), e2]
    split
    · exact ih k (i + 1) _ (by clear e2; omega) (by clear e2; omega) (by clear e2; omega)
    · exact ih k (i + 1) _ (by clear e2; omega) (by clear e2; omega) (by clear e2; omega)
theorem climbs_some (l : List S56) (hl : l.length ≤ 1000000) : ∀ (d k i : Nat) (c a : Int), l.length - i = d → i ≤ l.length → d < k → ∃ r, impl_climbs.l0 k c a l (l.length : Int) i = some r := by
  intro d
  induction d with
  | zero =>
    intro k i c a hd hi hk
    obtain ⟨k, rfl⟩ : ∃ m, k = m + 1 := ⟨k - 1, by omega⟩
    exact ⟨c, by rw [impl_climbs.l0, if_neg (by omega)]⟩
  | succ d ih =>
    intro k i c a hd hi hk
    obtain ⟨k, rfl⟩ : ∃ m, k = m + 1 := ⟨k - 1, by omega⟩
    have e2 : wrap64 ((i : Int) + 1) = ((i + 1 : Nat) : Int) := by unfold wrap64; omega
    rw [impl_climbs.l0, if_pos (by clear e2; omega), if_pos (by clear e2; omega), if_pos (by clear e2; omega), e2]
    exact ih k (i + 1) _ _ (by clear e2; omega) (by clear e2; omega) (by clear e2; omega)
theorem of_same (k : Nat) (E T C : Int) (l : List S56) (hx : ∀ x ∈ l, 0 ≤ x.f0 ∧ x.f0 ≤ 1000) (hl : l.length ≤ 1000000) (hk : l.length < k) : spec_csCost.f k E T C l = impl_Prices_of.f k E T C l ∧ ∃ r, impl_Prices_of.f k E T C l = some r := by
  obtain ⟨r1, h1⟩ := countBroken_some l hl l.length k 0 0 (by omega) (by omega) hk
  obtain ⟨r2, h2⟩ := climbs_some l hl l.length k 0 0 0 (by omega) (by omega) hk
  have h1' : impl_countBroken.f k l = some r1 := h1
  have h2' : impl_climbs.f k l = some r2 := h2
  have e1 : spec_flBroken.f k l = impl_countBroken.f k l := broken_same2 l k 0 0 _
  have e2 : spec_csClimbs.f k l = impl_climbs.f k l := climbs_same l _ hx k 0 0 0 (by omega) (by omega)
  unfold spec_csCost.f impl_Prices_of.f
  rw [e1, e2]
  exact ⟨rfl, by rw [h1', Option.bind_some, h2', Option.bind_some]; exact ⟨_, rfl⟩⟩
theorem cost_l0 (E T C : Int) (e n : Nat) (he : 1 ≤ e) (he2 : e ≤ 10) (hn : n ≤ 60) (K : Nat) (hK : 1000000 < K) : ∀ (d k b : Nat) (s : Int), n + 1 - b = d → b ≤ n + 1 → 1000001 + d < k →
    ∃ r, spec_CostOfPlay.l0 k e n s b E T C = some (r, true) ∧ cpF K E T C e n d b s = some r := by
  intro d
  induction d with
  | zero =>
    intro k b s hd hb hk
    obtain ⟨k, rfl⟩ : ∃ m, k = m + 1 := ⟨k - 1, by omega⟩
    exact ⟨s, by rw [spec_CostOfPlay.l0, if_neg (by omega)], rfl⟩
  | succ d ih =>
    intro k b s hd hb hk
    obtain ⟨k, rfl⟩ : ∃ m, k = m + 1 := ⟨k - 1, by omega⟩
    have hp := spec_flPlay_is e n b he he2 (by omega) (by omega) (by omega) (by omega) k (by omega)
    have hlen := playF_len bestF b ((n : Int)).toNat e n 0 []
    have hmem := playF_mem bestF bestF_range b 1000 ((n : Int)).toNat e n 0 [] (by omega) (by omega) (by omega) (fun x hx => by simp at hx)
    rw [List.length_nil, Nat.zero_add, Int.toNat_natCast] at hlen
    rw [Int.toNat_natCast] at hmem hp
    generalize hL : playF bestF (b : Int) n e (n : Int) 0 [] = L at hlen hmem hp
    obtain ⟨hs1, _⟩ := of_same k E T C L hmem (by omega) (by omega)
    obtain ⟨_, x, hx⟩ := of_same 1000 E T C L hmem (by omega) (by omega)
    have hxk : impl_Prices_of.f k E T C L = some x := LeO_add' (g := fun k => impl_Prices_of.f k E T C L) (impl_Prices_of.mono E T C L) 1000 k (by omega) x hx
    have hxK : impl_Prices_of.f K E T C L = some x := LeO_add' (g := fun k => impl_Prices_of.f k E T C L) (impl_Prices_of.mono E T C L) 1000 K (by omega) x hx
    obtain ⟨r, h1, h2⟩ := ih k (b + 1) (max s x) (by omega) (by omega) (by omega)
    refine ⟨r, ?_, ?_⟩
    · have e2 : wrap64 ((b : Int) + 1) = ((b + 1 : Nat) : Int) := by unfold wrap64; omega
      rw [spec_CostOfPlay.l0, if_pos (by clear e2; omega), hp, Option.bind_some, hs1, hxk, Option.bind_some, spec_l1Most_is, Option.bind_some, e2]
      exact h1
    · rw [cpF, Int.toNat_natCast, hL, hxK, Option.bind_some, show mx s x = max s x by unfold mx; omega, show (b : Int) + 1 = ((b + 1 : Nat) : Int) by omega]
      exact h2
theorem price_is (p : Int) : impl_isPrice.f p = some (decide (0 ≤ p) && decide (p ≤ 1000)) := by unfold impl_isPrice.f; rw [impl_within_is]; rfl
theorem prices_same (p q r a n : Int) (k : Nat) (hk : 10 < k) : spec_csAsked.f k p q r a n = impl_isCostly.f p q r a n := by
  unfold spec_csAsked.f impl_isCostly.f spec_csGood.f impl_ArePrices.f
  rw [spec_l1All_is _ 0 1000 (by simp) k (by simp; omega), price_is, price_is, price_is, spec_flEggs_is, impl_isEggs_is, spec_l1In_is, impl_within_is]
  simp only [List.all_cons, List.all_nil, Bool.and_true, Option.bind_some]
  cases (decide (0 ≤ p) && decide (p ≤ 1000)) <;> cases (decide (0 ≤ q) && decide (q ≤ 1000)) <;> cases (decide (0 ≤ r) && decide (r ≤ 1000)) <;> rfl
theorem costly_some (p q r a n : Int) : ∃ b, impl_isCostly.f p q r a n = some b := by
  unfold impl_isCostly.f impl_ArePrices.f
  rw [price_is, price_is, price_is, impl_isEggs_is, impl_within_is]
  simp only [Option.bind_some]
  cases (decide (0 ≤ p) && decide (p ≤ 1000)) <;> cases (decide (0 ≤ q) && decide (q ≤ 1000)) <;> cases (decide (0 ≤ r) && decide (r ≤ 1000)) <;> cases (decide (1 ≤ a) && decide (a ≤ 10)) <;> exact ⟨_, rfl⟩
theorem FnExactCostOfPlay : laws_FnExactCostOfPlay.Pure := by
  intro p q r a n _ _ _ _ _
  obtain ⟨t, ht⟩ := costly_some p q r a n
  have hs := prices_same p q r a n 1100000 (by omega)
  unfold spec_CostOfPlay.f impl_CostOfPlay.f
  refine ⟨1100000, 1100000, ?_⟩
  rw [hs, ht, Option.bind_some, Option.bind_some]
  cases t with
  | false => exact ⟨0, false, rfl, rfl⟩
  | true =>
    obtain ⟨⟨ha, hb⟩, ⟨hc, hd⟩⟩ := impl_isCostly_true _ _ _ _ _ ht
    obtain ⟨e, rfl⟩ : ∃ m : Nat, a = m := ⟨a.toNat, by omega⟩
    obtain ⟨m, rfl⟩ : ∃ m : Nat, n = m := ⟨n.toNat, by omega⟩
    obtain ⟨x, h1, h2⟩ := cost_l0 p q r e m (by omega) (by omega) (by omega) 1100000 (by omega) (m + 1) 1100000 0 0 (by omega) (by omega) (by omega)
    refine ⟨x, true, ?_, ?_⟩
    · rw [if_pos rfl]; exact h1
    · rw [if_pos rfl, Int.toNat_natCast, Int.toNat_natCast]
      rw [show ((0 : Nat) : Int) = 0 from rfl] at h2
      rw [h2]; rfl

end Go.Proofs.Ytiahedkmlacpkaa.Pure
