-- written by this session's own driver (wip/gen.py) with the kit's print and contracts of our own
import Derived.Test.YtmclbiollhdbjaaPrintA0
import Derived.Test.YtmclbiollhdbjaaPrintA11
import Derived.Test.YtmclbiollhdbjaaPrintA12
namespace Go.Proofs.Ytmclbiollhdbjaa.PrintA
open Go.RowKit Go.Proofs.YtmclbiollhdbjaaLib Go.Proofs.YtmclbiollhdbjaaW.PrintWords Go.Proofs.YtmclbiollhdbjaaW.PrintLast Go.Proofs.YtmclbiollhdbjaaW.PrintMore
attribute [local go_sem] max2_int min2_int max_two min_two max_three min_three max_four min_four   -- for this text's walks alone
set_option linter.unusedVariables false
set_option linter.unusedSimpArgs false

/-! behind impl_treeEnd -/
theorem treeEnd_cut (l : List Int) (p n : Nat) (hn : 1 ≤ n) (h : p + n ≤ l.length) : (l.drop p).take n = rd l (p : Int) :: (l.drop (p + 1)).take (n - 1) := by
  obtain ⟨m, rfl⟩ : ∃ m, n = m + 1 := ⟨n - 1, by omega⟩
  rw [List.drop_eq_getElem_cons (by omega : p < l.length), List.take_succ_cons]
  simp [rd, List.getD_eq_getElem?_getD, show p < l.length by omega]
theorem impl_treeEnd_is (l : List Int) (hl : l.length ≤ 1000) : ∀ (n : Nat) (p : Nat) (low high : Int) (k : Nat), high = low + n - 1 → 2 * n + 2 ≤ k → n ≤ 1000 → p ≤ 1000 → 0 ≤ low → low ≤ 1000000 - n →
    impl_treeEnd.f k l (p : Int) low high = some (if p + n ≤ l.length ∧ trOk n low ((l.drop p).take n) = true then ((p + n : Nat) : Int) else if n = 0 then (p : Int) else -1) := by
  intro n
  induction n using Nat.strongRecOn with
  | _ n ih =>
    intro p low high k hh hk hn hp h0 h1
    obtain ⟨k, rfl⟩ : ∃ m, k = m + 1 := ⟨k - 1, by omega⟩
    by_cases hz : n = 0
    · subst hz
      simp only [impl_treeEnd.f]
      rw [if_pos (by omega)]
      split
      · simp
      · simp
    · obtain ⟨k, rfl⟩ : ∃ m, k = m + 1 := ⟨k - 1, by omega⟩
      simp only [impl_treeEnd.f]
      rw [if_neg (by omega), if_neg (by omega)]
      by_cases hpl : (p : Int) ≥ (l.length : Int)
      · rw [if_pos hpl, if_neg (by omega), if_neg hz]
        simp [impl_treeEnd.j0]
      · rw [if_neg hpl, if_pos (by omega), if_pos (by omega), impl_within_is]
        simp only [Option.bind_some, impl_treeEnd.j0]
        generalize hx : rd l (p : Int) = x
        by_cases hw : (decide (low ≤ x) && decide (x ≤ high)) = true
        · rw [hw]
          simp only [Bool.and_eq_true, decide_eq_true_eq] at hw
          have e1 : wrap64 ((p : Int) + 1) = ((p + 1 : Nat) : Int) := by unfold wrap64; omega
          have e2 : wrap64 (x - 1) = x - 1 := by unfold wrap64; omega
          have e3 : wrap64 (x + 1) = x + 1 := by unfold wrap64; omega
          obtain ⟨n1, hn1⟩ : ∃ n1 : Nat, x = low + n1 := ⟨(x - low).toNat, by omega⟩
          obtain ⟨n2, hn2⟩ : ∃ n2 : Nat, n = n1 + n2 + 1 := ⟨n - n1 - 1, by omega⟩
          have i1 := ih n1 (by omega) (p + 1) low (x - 1) k (by omega) (by omega) (by omega) (by omega) h0 (by omega)
          rw [if_neg (by simp), if_pos (by omega), if_pos (by omega), e1, e2, e3, i1]
          simp only [Option.bind_some]
          by_cases hle : p + n ≤ l.length
          · have hcut := treeEnd_cut l p n (by omega) hle
            rw [hx] at hcut
            have hlen : ((l.drop (p + 1)).take (n - 1)).length = n - 1 := by rw [List.length_take, List.length_drop]; omega
            have hgd : trOk n low ((l.drop p).take n) = (trOk n1 low ((l.drop (p + 1)).take n1) && trOk n2 (x + 1) ((l.drop (p + 1 + n1)).take n2)) := by
              rw [hcut]
              obtain ⟨m, rfl⟩ : ∃ m, n = m + 1 := ⟨n - 1, by omega⟩
              simp only [trOk, hlen]
              rw [decide_eq_true hw.1, decide_eq_true (by omega : x ≤ low + ((m + 1 - 1 : Nat) : Int)), show (x - low).toNat = n1 by omega]
              simp only [Bool.true_and]
              rw [List.take_take, Nat.min_eq_left (by omega), List.drop_take, List.drop_drop, show m + 1 - 1 - n1 = n2 by omega]
              rw [trOk_fuel m n1 low _ (by rw [List.length_take]; omega) (by rw [List.length_take]; omega), trOk_fuel m n2 (x + 1) _ (by rw [List.length_take]; omega) (by rw [List.length_take]; omega)]
            by_cases g1 : trOk n1 low ((l.drop (p + 1)).take n1) = true
            · have c1 : p + 1 + n1 ≤ l.length ∧ trOk n1 low ((l.drop (p + 1)).take n1) = true := ⟨by omega, g1⟩
              rw [if_pos c1, if_neg (by omega : ¬ (((p + 1 + n1 : Nat) : Int) < 0))]
              have i2 := ih n2 (by omega) (p + 1 + n1) (x + 1) high k (by omega) (by omega) (by omega) (by omega) (by omega) (by omega)
              rw [i2]
              simp only [Option.bind_some]
              by_cases g2 : trOk n2 (x + 1) ((l.drop (p + 1 + n1)).take n2) = true
              · have c2 : p + 1 + n1 + n2 ≤ l.length ∧ trOk n2 (x + 1) ((l.drop (p + 1 + n1)).take n2) = true := ⟨by omega, g2⟩
                have c3 : p + n ≤ l.length ∧ trOk n low ((l.drop p).take n) = true := ⟨hle, by rw [hgd, g1, g2]; rfl⟩
                rw [if_pos c2, if_pos c3]
                congr 1; omega
              · have c2 : ¬ (p + 1 + n1 + n2 ≤ l.length ∧ trOk n2 (x + 1) ((l.drop (p + 1 + n1)).take n2) = true) := fun h => g2 h.2
                have c3 : ¬ (p + n ≤ l.length ∧ trOk n low ((l.drop p).take n) = true) := fun h => g2 (by have := h.2; rw [hgd, Bool.and_eq_true] at this; exact this.2)
                rw [if_neg c2, if_neg c3]
                by_cases hz2 : n2 = 0
                · subst hz2
                  exact absurd (by simp [trOk]) g2
                · rw [if_neg hz2, if_neg hz]
            · have c1 : ¬ (p + 1 + n1 ≤ l.length ∧ trOk n1 low ((l.drop (p + 1)).take n1) = true) := fun h => g1 h.2
              have c3 : ¬ (p + n ≤ l.length ∧ trOk n low ((l.drop p).take n) = true) := fun h => g1 (by have := h.2; rw [hgd, Bool.and_eq_true] at this; exact this.1)
              rw [if_neg c1]
              by_cases hz1 : n1 = 0
              · subst hz1
                exact absurd (by simp [trOk]) g1
              · rw [if_neg hz1, if_pos (by omega : (-1 : Int) < 0), if_neg c3, if_neg hz]
          · have c3 : ¬ (p + n ≤ l.length ∧ trOk n low ((l.drop p).take n) = true) := fun h => hle h.1
            rw [if_neg c3, if_neg hz]
            by_cases c1 : p + 1 + n1 ≤ l.length ∧ trOk n1 low ((l.drop (p + 1)).take n1) = true
            · rw [if_pos c1, if_neg (by omega : ¬ (((p + 1 + n1 : Nat) : Int) < 0))]
              have i2 := ih n2 (by omega) (p + 1 + n1) (x + 1) high k (by omega) (by omega) (by omega) (by omega) (by omega) (by omega)
              have c2 : ¬ (p + 1 + n1 + n2 ≤ l.length ∧ trOk n2 (x + 1) ((l.drop (p + 1 + n1)).take n2) = true) := fun h => by have := h.1; omega
              rw [i2, if_neg c2, if_neg (by omega : ¬ n2 = 0)]
              rfl
            · rw [if_neg c1]
              by_cases hz1 : n1 = 0
              · subst hz1
                rw [if_pos rfl, if_neg (by omega : ¬ (((p + 1 : Nat) : Int) < 0))]
                have i2 := ih n2 (by omega) (p + 1) (x + 1) high k (by omega) (by omega) (by omega) (by omega) (by omega) (by omega)
                have c2 : ¬ (p + 1 + n2 ≤ l.length ∧ trOk n2 (x + 1) ((l.drop (p + 1)).take n2) = true) := fun h => by have := h.1; omega
                rw [i2, if_neg c2]
                by_cases hz2 : n2 = 0
                · exfalso; omega
                · rw [if_neg hz2]; rfl
              · rw [if_neg hz1, if_pos (by omega : (-1 : Int) < 0)]
        · rw [Bool.eq_false_iff.mpr hw]
          simp only [Bool.not_false, if_true]
          by_cases h : p + n ≤ l.length ∧ trOk n low ((l.drop p).take n) = true
          · exfalso
            have hcut := treeEnd_cut l p n (by omega) h.1
            rw [hx] at hcut
            have hlen : ((l.drop (p + 1)).take (n - 1)).length = n - 1 := by rw [List.length_take, List.length_drop]; omega
            have h2 := h.2
            rw [hcut] at h2
            obtain ⟨m, rfl⟩ : ∃ m, n = m + 1 := ⟨n - 1, by omega⟩
            simp only [trOk, hlen, Bool.and_eq_true, decide_eq_true_eq] at h2
            apply hw
            simp only [Bool.and_eq_true, decide_eq_true_eq]
            omega
          · rw [if_neg h, if_neg hz]

end Go.Proofs.Ytmclbiollhdbjaa.PrintA
