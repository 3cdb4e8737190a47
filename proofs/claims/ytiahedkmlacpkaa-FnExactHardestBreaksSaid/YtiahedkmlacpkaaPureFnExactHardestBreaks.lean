/- The law FnExactHardestBreaks holds: for every input the program's HardestBreaks returns what the reference's returns, in every field, leaves its arguments as they were, and shares no memory. Conditions: none but those of the given statement. -/
import Derived.Test.YtiahedkmlacpkaaPrintA1
import Derived.Test.YtiahedkmlacpkaaPrintA2
import Derived.Test.YtiahedkmlacpkaaPrintA5
import Derived.Test.YtiahedkmlacpkaaPrintA6
import Derived.Test.YtiahedkmlacpkaaPrintA7
import Derived.Test.YtiahedkmlacpkaaPrintA8
import Derived.Test.YtiahedkmlacpkaaLibPlay
namespace Go.Proofs.Ytiahedkmlacpkaa.Pure
open Go.RowKit Go.Proofs.Ytiahedkmlacpkaa.PrintA Go.Proofs.YtiahedkmlacpkaaW.PrintWords Go.Proofs.YtiahedkmlacpkaaW.PrintLast Go.Proofs.YtiahedkmlacpkaaLib
set_option linter.unusedVariables false
set_option linter.unusedSimpArgs false

-- LIB Play
theorem playF_plN (F : Nat → Int → Int) (b : Int) : ∀ (k e : Nat) (n low : Int) (acc : List S56), (playF F b k e n low acc).length = acc.length + plN F k e n (b - low)
  | 0, _, _, _, acc => by simp [playF, plN]
  | k + 1, e, n, low, acc => by
    rw [playF, plN]
    by_cases hn : 0 < n
    · rw [if_pos hn, if_pos hn]
      by_cases h : low + F e n > b
      · rw [if_pos h, if_pos (by omega), playF_plN F b k (e - 1) (F e n - 1) low]
        simp; omega
      · rw [if_neg h, if_neg (by omega), playF_plN F b k e (n - F e n) (low + F e n), show b - (low + F e n) = b - low - F e n by omega]
        simp; omega
    · rw [if_neg hn, if_neg hn]; rfl
theorem playN_plN (e n : Nat) (b : Int) : playN e n b = (plN bestF n e n b : Int) := by
  unfold playN; rw [playF_plN, Int.sub_zero, Int.toNat_natCast]; simp
theorem hardest_l0 (n : Nat) (G : Int → Int) (L : List Int) (hL : L.length = n + 1) (hn : n ≤ 1000) (hG : ∀ i : Nat, i ≤ n → rd L (i : Int) = G i) : ∀ (d k i : Nat) (most : Int) (out : List Int), n + 1 - i = d → i ≤ n + 1 → d < k → out.length ≤ i →
    spec_HardestBreaks.l0 k most out L (L.length : Int) (i : Int) = some (greatL G n d i out most, true) := by
  intro d
  induction d with
  | zero =>
    intro k i most out hd hi hk ho
    obtain ⟨k, rfl⟩ : ∃ m, k = m + 1 := ⟨k - 1, by omega⟩
    rw [spec_HardestBreaks.l0, if_neg (by omega)]; rfl
  | succ d ih =>
    intro k i most out hd hi hk ho
    obtain ⟨k, rfl⟩ : ∃ m, k = m + 1 := ⟨k - 1, by omega⟩
    have e2 : wrap64 ((i : Int) + 1) = ((i + 1 : Nat) : Int) := by unfold wrap64; omega
    have e3 : ((i : Int) + 1) = ((i + 1 : Nat) : Int) := by omega
    rw [spec_HardestBreaks.l0, if_pos (by omega), if_pos (by omega), if_pos (by omega), hG i (by omega), e2, greatL, if_pos (show (i : Int) ≤ (n : Int) by omega)]
    by_cases h1 : G i > most
    · rw [if_pos h1, if_pos h1, if_pos rfl, if_pos (by simp), List.nil_append, e3]
      exact ih k (i + 1) _ _ (by omega) (by omega) (by omega) (by simp)
    · rw [if_neg h1, if_neg h1]
      by_cases h2 : G i = most
      · rw [if_pos h2, if_pos h2, if_pos (by omega), e3]
        exact ih k (i + 1) _ _ (by omega) (by omega) (by omega) (by simp; omega)
      · rw [if_neg h2, if_neg h2, e3]
        exact ih k (i + 1) _ _ (by omega) (by omega) (by omega) (by omega)
theorem greatL_len (G : Int → Int) (n : Int) : ∀ (d : Nat) (b : Int) (out : List Int) (most : Int), (greatL G n d b out most).length ≤ out.length + d
  | 0, _, out, _ => by simp [greatL]
  | d + 1, b, out, most => by
    rw [greatL]
    split
    · split
      · have := greatL_len G n d (b + 1) [b] (G b); simp at this; omega
      · split
        · have := greatL_len G n d (b + 1) (out ++ [b]) most; simp at this; omega
        · have := greatL_len G n d (b + 1) out most; omega
    · omega
theorem FnExactHardestBreaks : laws_FnExactHardestBreaks.Pure := by
  intro a n _ _
  by_cases hp : (1 ≤ a ∧ a ≤ 10) ∧ (0 ≤ n ∧ n ≤ 1000)
  · have hpd : ((decide (1 ≤ a) && decide (a ≤ 10)) && (decide (0 ≤ n) && decide (n ≤ 1000))) = true := by simp [hp]
    obtain ⟨⟨ha, hb⟩, hc, hd⟩ := hp
    obtain ⟨e, rfl⟩ : ∃ m : Nat, a = m := ⟨a.toNat, by omega⟩
    obtain ⟨m, rfl⟩ : ∃ m : Nat, n = m := ⟨n.toNat, by omega⟩
    have hs := spec_flCounts_is m e 40000 (by omega) (by omega) (by omega) (by omega)
    have hG : ∀ i : Nat, i ≤ m → rd (cntL bestF e m) (i : Int) = playN e m i := by
      intro i hi
      rw [playN_plN]
      simp [rd, List.getD_eq_getElem?_getD, cntL, show i < m + 1 by omega]
    have hl := hardest_l0 m (playN e m) (cntL bestF e m) (cntL_length _ _ _) (by omega) hG (m + 1) 40000 0 (-1) [] (by omega) (by omega) (by omega) (by simp)
    refine ⟨40000, greatL (playN e m) m (m + 1) 0 [] (-1), true, ?_, ?_, ?_⟩
    · unfold spec_HardestBreaks.f
      rw [spec_flBoth_is, hpd, Option.bind_some, if_pos rfl, hs, Option.bind_some]
      exact hl
    · unfold impl_HardestBreaks.f
      rw [impl_isHouse_is, hpd, Option.bind_some, if_pos rfl, Int.toNat_natCast, show ((m : Int) + 1).toNat = m + 1 by omega]
    · have := greatL_len (playN e m) m (m + 1) 0 [] (-1)
      simp at this; omega
  · have hpd : ((decide (1 ≤ a) && decide (a ≤ 10)) && (decide (0 ≤ n) && decide (n ≤ 1000))) = false := by
      simp only [Bool.and_eq_false_iff, decide_eq_false_iff_not]; omega
    refine ⟨0, [], false, ?_, ?_, by simp⟩
    · unfold spec_HardestBreaks.f
      rw [spec_flBoth_is, hpd]; rfl
    · unfold impl_HardestBreaks.f
      rw [impl_isHouse_is, hpd]; rfl

end Go.Proofs.Ytiahedkmlacpkaa.Pure
