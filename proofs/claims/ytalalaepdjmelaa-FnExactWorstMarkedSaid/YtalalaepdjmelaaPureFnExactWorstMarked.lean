/- The law FnExactWorstMarked holds: for every input the program's WorstMarked returns what the reference's returns, in every field, leaves its arguments as they were, and shares no memory. Conditions: none but those of the given statement. -/
import Derived.Test.YtalalaepdjmelaaPrintZ6
import Derived.Test.YtalalaepdjmelaaPrintZ8
import Derived.Test.YtalalaepdjmelaaPrintZ9
import Derived.Test.YtalalaepdjmelaaPrintZ11
import Derived.Test.YtalalaepdjmelaaPrintZ16
import Derived.Test.YtalalaepdjmelaaPrintZ17
import Derived.Test.YtalalaepdjmelaaPrintZ18
import Derived.Test.YtalalaepdjmelaaPrintZ19
namespace Go.Proofs.Ytalalaepdjmelaa.Pure
open Go.RowKit Go.Proofs.Ytalalaepdjmelaa.PrintZ Go.Proofs.YtalalaepdjmelaaW.PrintWords Go.Proofs.YtalalaepdjmelaaW.PrintLast Go.Proofs.YtalalaepdjmelaaLib
set_option linter.unusedVariables false
set_option linter.unusedSimpArgs false

theorem LeO_add {α : Type} {g : Nat → Option α} (h : ∀ k, LeO (g k) (g (k + 1))) (k : Nat) : ∀ m, LeO (g k) (g (k + m))
  | 0 => LeO.refl _
  | m + 1 => LeO.trans (LeO_add h k m) (h (k + m))
/-- The greatest of 0 and G 0, .., G n. -/
def mxG (G : Int → Int) : Nat → Int
  | 0 => 0
  | n + 1 => max (mxG G n) (G n)
theorem mxG_ge (G : Int → Int) : ∀ n b : Nat, b < n → G b ≤ mxG G n
  | n + 1, b, h => by
    rw [mxG]
    by_cases e : b = n
    · subst e; omega
    · have := mxG_ge G n b (by omega); omega
theorem mxG_0 (G : Int → Int) : ∀ n, 0 ≤ mxG G n
  | 0 => Int.le_refl _
  | n + 1 => by rw [mxG]; have := mxG_0 G n; omega
/-- All numbers below n at which G is m. -/
def eqG (G : Int → Int) (m : Int) : Nat → List Int
  | 0 => []
  | n + 1 => if G n = m then eqG G m n ++ [(n : Int)] else eqG G m n
theorem eqG_none (G : Int → Int) (m : Int) : ∀ n : Nat, (∀ b : Nat, b < n → G b < m) → eqG G m n = []
  | 0, _ => rfl
  | n + 1, h => by
    rw [eqG, if_neg (by have := h n (by omega); omega)]
    exact eqG_none G m n (fun b hb => h b (by omega))
theorem eqG_len (G : Int → Int) (m : Int) : ∀ n : Nat, (eqG G m n).length ≤ n
  | 0 => Nat.le_refl _
  | n + 1 => by
    rw [eqG]
    have := eqG_len G m n
    split
    · simp; omega
    · omega
theorem greatL_is (G : Int → Int) (hG : ∀ b, 0 ≤ G b) (n : Nat) : ∀ (d i : Nat), n + 1 - i = d → i ≤ n + 1 → 1 ≤ i → greatL G n d i (eqG G (mxG G i) i) (mxG G i) = eqG G (mxG G (n + 1)) (n + 1)
  | 0, i, hd, hi, _ => by
    obtain rfl : i = n + 1 := by omega
    rfl
  | d + 1, i, hd, hi, h1 => by
    have e3 : ((i : Int) + 1) = ((i + 1 : Nat) : Int) := by omega
    rw [greatL, if_pos (show (i : Int) ≤ (n : Int) by omega), e3]
    have ih := greatL_is G hG n d (i + 1) (by omega) (by omega) (by omega)
    have hs : mxG G (i + 1) = max (mxG G i) (G i) := rfl
    by_cases h : G i > mxG G i
    · rw [if_pos h]
      rw [hs, show max (mxG G i) (G i) = G i by omega] at ih
      rw [← ih]
      congr 1
      rw [eqG, if_pos rfl, eqG_none G (G i) i (fun b hb => by have := mxG_ge G i b hb; omega)]; rfl
    · rw [if_neg h]
      rw [hs, show max (mxG G i) (G i) = mxG G i by omega, eqG] at ih
      by_cases h2 : G i = mxG G i
      · rw [if_pos h2]; rw [if_pos h2] at ih; exact ih
      · rw [if_neg h2]; rw [if_neg h2] at ih; exact ih
theorem greatL_all (G : Int → Int) (hG : ∀ b, 0 ≤ G b) (n : Nat) : greatL G n (n + 1) 0 [] (-1) = eqG G (mxG G (n + 1)) (n + 1) := by
  have h0 := hG 0
  have hm : mxG G 1 = G 0 := by simp only [mxG]; have : G ((0 : Nat) : Int) = G 0 := rfl; rw [this]; omega
  have h := greatL_is G hG n n 1 (by omega) (by omega) (by omega)
  rw [greatL, if_pos (by omega), if_pos (by omega), ← h, hm]
  congr 1
  rw [eqG, if_pos (show G ((0 : Nat) : Int) = G 0 from rfl)]; rfl
theorem mkN_0 (k : Nat) (a : Int) (l : List Int) (b : Int) : 0 ≤ mkN k a l b := by unfold mkN; split <;> omega
theorem stWorst_l0 (a : Nat) (l : List Int) (K : Nat) (hK : 400 < K) (hs : ∀ b : Nat, b ≤ a → ∀ k, 400 < k → ∃ r, spec_stDrops.f k a l b = some r ∧ (r.length : Int) = mkN K a l b ∧ r.length ≤ 1000) (ha : a ≤ 100) : ∀ (d k i : Nat), a + 1 - i = d → i ≤ a + 1 → 400 + d < k →
    spec_stWorst.l0 k a l (mxG (mkN K a l) i) i = some (mxG (mkN K a l) (a + 1))
  | 0, k, i, hd, hi, hk => by
    obtain ⟨k, rfl⟩ : ∃ m, k = m + 1 := ⟨k - 1, by omega⟩
    obtain rfl : i = a + 1 := by omega
    rw [spec_stWorst.l0, if_neg (by omega)]
  | d + 1, k, i, hd, hi, hk => by
    obtain ⟨k, rfl⟩ : ∃ m, k = m + 1 := ⟨k - 1, by omega⟩
    obtain ⟨r, hr, hl, _⟩ := hs i (by omega) k (by omega)
    have ih := stWorst_l0 a l K hK hs ha d k (i + 1) (by omega) (by omega) (by omega)
    have e2 : wrap64 ((i : Int) + 1) = ((i + 1 : Nat) : Int) := by unfold wrap64; omega
    rw [spec_stWorst.l0, if_pos (by clear e2; omega), hr, Option.bind_some, spec_l1Most_is, Option.bind_some, e2, hl]
    exact ih
theorem worst_l0 (a : Nat) (l : List Int) (m : Int) (K : Nat) (hs : ∀ b : Nat, b ≤ a → ∀ k, 400 < k → ∃ r, spec_stDrops.f k a l b = some r ∧ (r.length : Int) = mkN K a l b ∧ r.length ≤ 1000) (ha : a ≤ 100) : ∀ (d k i : Nat), a + 1 - i = d → i ≤ a + 1 → 400 + d < k →
    spec_WorstMarked.l0 k a l m (eqG (mkN K a l) m i) i = some (eqG (mkN K a l) m (a + 1), true)
  | 0, k, i, hd, hi, hk => by
    obtain ⟨k, rfl⟩ : ∃ m, k = m + 1 := ⟨k - 1, by omega⟩
    obtain rfl : i = a + 1 := by omega
    rw [spec_WorstMarked.l0, if_neg (by omega)]
  | d + 1, k, i, hd, hi, hk => by
    obtain ⟨k, rfl⟩ : ∃ m, k = m + 1 := ⟨k - 1, by omega⟩
    obtain ⟨r, hr, hl, _⟩ := hs i (by omega) k (by omega)
    have ih := worst_l0 a l m K hs ha d k (i + 1) (by omega) (by omega) (by omega)
    have hlen := eqG_len (mkN K a l) m i
    have e2 : wrap64 ((i : Int) + 1) = ((i + 1 : Nat) : Int) := by unfold wrap64; omega
    rw [spec_WorstMarked.l0, if_pos (by clear e2; omega), hr, Option.bind_some, hl, e2]
    rw [eqG] at ih
    by_cases h : mkN K a l i = m
    · rw [if_pos h, if_pos (by clear e2; omega)]
      rw [if_pos h] at ih; exact ih
    · rw [if_neg h]
      rw [if_neg h] at ih; exact ih
theorem FnExactWorstMarked : laws_FnExactWorstMarked.Pure := by
  intro a l _ _ hl
  have h1 := spec_stGood_is a l (by omega) 1100000 (by omega)
  have h2 := impl_AreMarks_is a l (by omega) 1100000 (by omega)
  unfold spec_WorstMarked.f impl_WorstMarked.f
  refine ⟨1100000, 1100000, ?_⟩
  rw [h1, h2, Option.bind_some, Option.bind_some]
  by_cases hg : ((decide (0 ≤ a) && decide (a ≤ 100)) && risL 1 a 0 l) = true
  · rw [hg, if_pos rfl, if_pos rfl]
    simp only [Bool.and_eq_true, decide_eq_true_eq] at hg
    obtain ⟨⟨ha0, ha1⟩, hr⟩ := hg
    obtain ⟨n, rfl⟩ : ∃ n : Nat, a = n := ⟨a.toNat, by omega⟩
    have hs : ∀ b : Nat, b ≤ n → ∀ k, 400 < k → ∃ r, spec_stDrops.f k n l b = some r ∧ (r.length : Int) = mkN 1100000 n l b ∧ r.length ≤ 1000 := by
      intro b hb k hk
      obtain ⟨r, q1, _, q3⟩ := drops_same l n b (by omega) (by omega) (by omega) hr k hk
      obtain ⟨r', p1, p2, _⟩ := drops_same l n b (by omega) (by omega) (by omega) hr (k + 1100000) (by omega)
      obtain ⟨r2, s1, s2, _⟩ := drops_same l n b (by omega) (by omega) (by omega) hr 1100000 (by omega)
      have m1 := LeO_add (g := fun k => spec_stDrops.f k n l b) (spec_stDrops.mono n l b) k 1100000 r q1
      simp only [p1] at m1
      have m2 := LeO_add (g := fun k => spec_stDrops.f k n l b) (spec_stDrops.mono n l b) 1100000 k r2 s1
      simp only [Nat.add_comm 1100000 k, p1] at m2
      refine ⟨r, q1, ?_, q3⟩
      unfold mkN
      rw [s2, ← Option.some.inj m1, Option.some.inj m2]
    have hok : mkOk 1100000 n l := by
      intro b h0 hb
      obtain ⟨r, _, q2, q3⟩ := drops_same l n b (by omega) h0 hb hr 1100000 (by omega)
      exact ⟨r, q2, q3⟩
    rw [if_pos ⟨mkOkB_of _ _ _ hok (by omega), by omega, by omega⟩]
    have w1 := stWorst_l0 n l 1100000 (by omega) hs (by omega) (n + 1) 1100000 0 (by omega) (by omega) (by omega)
    have w2 := worst_l0 n l (mxG (mkN 1100000 n l) (n + 1)) 1100000 hs (by omega) (n + 1) 1100000 0 (by omega) (by omega) (by omega)
    have w3 := greatL_all (mkN 1100000 n l) (mkN_0 _ _ _) n
    have hlen := eqG_len (mkN 1100000 n l) (mxG (mkN 1100000 n l) (n + 1)) (n + 1)
    refine ⟨eqG (mkN 1100000 n l) (mxG (mkN 1100000 n l) (n + 1)) (n + 1), true, ?_, ?_, by omega⟩
    · unfold spec_stWorst.f
      rw [show spec_stWorst.l0 1100000 n l 0 0 = _ from w1, Option.bind_some]
      exact w2
    · rw [show ((n : Int) + 1).toNat = n + 1 by omega, w3]
  · rw [Bool.eq_false_iff.mpr hg]
    exact ⟨[], false, rfl, rfl, by simp⟩

end Go.Proofs.Ytalalaepdjmelaa.Pure
