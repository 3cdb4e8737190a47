-- written by this session's own driver (wip/gen.py) with the kit's print and contracts of our own
import Derived.Test.YtaniojfokildiaaGreatDoorPrintA0
import Derived.Test.YtaniojfokildiaaGreatDoorPrintA2
import Derived.Test.YtaniojfokildiaaGreatDoorPrintA3
import Derived.Test.YtaniojfokildiaaGreatDoorPrintA13
namespace Go.Proofs.YtaniojfokildiaaGreatDoor.PrintA
open Go.RowKit Go.Proofs.YtaniojfokildiaaGreatDoorLib Go.Proofs.YtaniojfokildiaaGreatDoorW.PrintWords Go.Proofs.YtaniojfokildiaaGreatDoorW.PrintLast Go.Proofs.YtaniojfokildiaaGreatDoorW.PrintMore
attribute [local go_sem] max2_int min2_int max_two min_two max_three min_three max_four min_four   -- for this text's walks alone
set_option linter.unusedVariables false
set_option linter.unusedSimpArgs false

/-! behind spec_l1Read -/
def rdL : Int → List UInt8 → Int
  | a, [] => a
  | a, b :: r => if (b.toNat : Int) < 48 then -1 else if (b.toNat : Int) > 57 then -1 else rdL (10 * a + ((b.toNat : Int) - 48)) r
def p10 : Nat → Int
  | 0 => 1
  | n + 1 => 10 * p10 n
theorem p10_le : ∀ i : Nat, i ≤ 6 → p10 i ≤ 1000000 ∧ 1 ≤ p10 i
  | 0, _ => by decide
  | 1, _ => by decide
  | 2, _ => by decide
  | 3, _ => by decide
  | 4, _ => by decide
  | 5, _ => by decide
  | 6, _ => by decide
  | n + 7, h => by omega
theorem l1Read_l0 (s : List UInt8) (hs : s.length ≤ 6) : ∀ (d k i : Nat) (a : Int), i ≤ s.length → s.length - i = d → d < k → 0 ≤ a → a < p10 i → spec_l1Read.l0 k (baOf s) a (i : Int) = some (rdL a (s.drop i))
  | 0, k, i, a, hi, hd, hk, h0, ha => by
    obtain ⟨k, rfl⟩ : ∃ m, k = m + 1 := ⟨k - 1, by omega⟩
    rw [spec_l1Read.l0, if_neg (by rw [baOf_size]; omega), List.drop_of_length_le (by omega)]
    rfl
  | d + 1, k, i, a, hi, hd, hk, h0, ha => by
    obtain ⟨k, rfl⟩ : ∃ m, k = m + 1 := ⟨k - 1, by omega⟩
    have hlt : i < s.length := by omega
    have hp := (p10_le i (by omega)).1
    have hb := s[i].toNat_lt
    rw [spec_l1Read.l0, if_pos (by rw [baOf_size]; omega), if_pos (by omega), bt_ba s i hlt, List.drop_eq_getElem_cons hlt, rdL]
    by_cases h1 : (s[i].toNat : Int) < 48
    · rw [if_pos h1, if_pos h1]
    · rw [if_neg h1, if_neg h1]
      by_cases h2 : (s[i].toNat : Int) > 57
      · rw [if_pos h2, if_pos h2]
      · have e1 : wrap64 ((wrap64 (10 * a)) + (((s[i].toNat : Int) - 48) % 256)) = 10 * a + ((s[i].toNat : Int) - 48) := by
          have e3 : wrap64 (10 * a) = 10 * a := by unfold wrap64; omega
          rw [e3]; unfold wrap64; omega
        have e2 : wrap64 ((i : Int) + 1) = ((i + 1 : Nat) : Int) := by unfold wrap64; omega
        have hq : p10 (i + 1) = 10 * p10 i := rfl
        rw [if_neg h2, if_neg h2, e1, e2, l1Read_l0 s hs d k (i + 1) _ (by clear e1 e2; omega) (by clear e1 e2; omega) (by clear e1 e2; omega) (by clear e1 e2; omega) (by rw [hq]; clear e1 e2; omega)]
/-- What the reference reads of a word. -/
def rd1 (s : List UInt8) : Int := if (1 ≤ s.length ∧ s.length ≤ 6) ∧ ¬ (s.headD 0 = 48 ∧ 1 < s.length) then rdL 0 s else -1
theorem l1Read_is (s : List UInt8) (k : Nat) (hk : 20 ≤ k) : spec_l1Read.f k (baOf s) = some (rd1 s) := by
  obtain ⟨k, rfl⟩ : ∃ m, k = m + 1 := ⟨k - 1, by omega⟩
  unfold spec_l1Read.f rd1
  rw [spec_l1In_is, Option.bind_some, baOf_size]
  by_cases h : 1 ≤ s.length ∧ s.length ≤ 6
  · have hg : (decide (1 ≤ (s.length : Int)) && decide ((s.length : Int) ≤ 6)) = true := by rw [decide_eq_true (by omega), decide_eq_true (by omega)]; rfl
    have h0 : 0 < s.length := by omega
    have hh : s.headD 0 = s[0] := by
      cases s with
      | nil => simp at h0
      | cons a t => rfl
    have hu : (s[0].toNat : Int) = 48 ↔ s[0] = 48 := u8_eq s[0] 48 (by omega)
    have hb0 := bt_ba s 0 h0
    have hl := fun k' (hk' : 7 < k') => l1Read_l0 s h.2 s.length k' 0 0 (by omega) (by omega) (by omega) (by omega) (by decide)
    rw [if_pos hg, if_pos (by omega), show (0 : Int) = ((0 : Nat) : Int) from rfl, hb0, hh]
    by_cases h48 : s[0] = 48
    · rw [if_pos (hu.2 h48)]
      by_cases h1 : 1 < s.length
      · rw [spec_l1Read.j0, if_pos (decide_eq_true (by omega)), if_neg (by intro hx; exact hx.2 ⟨h48, h1⟩)]
      · rw [spec_l1Read.j0, if_neg (by rw [decide_eq_false (by omega)]; decide), if_pos ⟨h, fun hx => h1 hx.2⟩]
        have := hl k (by omega)
        rw [List.drop_zero] at this
        exact this
    · rw [if_neg (fun hx => h48 (hu.1 hx)), spec_l1Read.j0, if_neg (by decide), if_pos ⟨h, fun hx => h48 hx.1⟩]
      have := hl k (by omega)
      rw [List.drop_zero] at this
      exact this
  · have hg : (decide (1 ≤ (s.length : Int)) && decide ((s.length : Int) ≤ 6)) = false := by
      rw [Bool.eq_false_iff]; intro hx; simp only [Bool.and_eq_true, decide_eq_true_eq] at hx; omega
    rw [hg, if_neg (by decide), spec_l1Read.j0, if_pos rfl, if_neg (fun hx => h hx.1)]
/-- The numeral of a number below 1000. -/
def dg3 (v : Nat) : List UInt8 := if v < 10 then [UInt8.ofNat (48 + v)] else if v < 100 then [UInt8.ofNat (48 + v / 10), UInt8.ofNat (48 + v % 10)] else [UInt8.ofNat (48 + v / 100), UInt8.ofNat (48 + v / 10 % 10), UInt8.ofNat (48 + v % 10)]
theorem decDigits_dg3 (v : Nat) (h : v < 1000) : Lib.decDigits v = dg3 v := by
  unfold dg3
  by_cases h1 : v < 10
  · rw [if_pos h1, Lib.decDigits_one h1]
  · rw [if_neg h1]
    by_cases h2 : v < 100
    · rw [if_pos h2, Lib.decDigits_two h1 h2]
    · rw [if_neg h2, Lib.decDigits, dif_neg h1, Lib.decDigits_two (by omega) (by omega), show v / 10 / 10 = v / 100 by omega]; rfl
theorem rdL_ge : ∀ (l : List UInt8) (a : Int), 0 ≤ a → rdL a l = -1 ∨ a ≤ rdL a l
  | [], a, _ => .inr (Int.le_refl _)
  | b :: r, a, h => by
    rw [rdL]
    split
    · exact .inl rfl
    · split
      · exact .inl rfl
      · rcases rdL_ge r (10 * a + ((b.toNat : Int) - 48)) (by omega) with h1 | h1
        · exact .inl h1
        · exact .inr (by omega)
theorem u8_is (b : UInt8) (n : Nat) (h : b.toNat = n) : b = UInt8.ofNat n := by
  apply UInt8.toNat_inj.1
  rw [UInt8.toNat_ofNat']
  have := b.toNat_lt
  omega
/-- A word that reads as one of 1 to 100 is its numeral. -/
theorem rd1_word (s : List UInt8) (v : Nat) (hv : rd1 s = (v : Int)) (h1 : 1 ≤ v) (h2 : v ≤ 100) : s = dg3 v := by
  unfold rd1 at hv
  by_cases hc : (1 ≤ s.length ∧ s.length ≤ 6) ∧ ¬ (s.headD 0 = 48 ∧ 1 < s.length)
  case neg => rw [if_neg hc] at hv; omega
  rw [if_pos hc] at hv
  obtain ⟨⟨hl1, hl2⟩, hn⟩ := hc
  match s, hl1, hl2, hn, hv with
  | [a], _, _, _, hv =>
    simp only [rdL] at hv
    split at hv
    · omega
    · split at hv
      · omega
      · unfold dg3
        rw [if_pos (by omega), u8_is a (48 + v) (by omega)]
  | [a, b], _, _, hn, hv =>
    have ha : a.toNat ≠ 48 := fun h => hn ⟨u8_is a 48 h, by simp⟩
    simp only [rdL] at hv
    split at hv
    · omega
    · split at hv
      · omega
      · split at hv
        · omega
        · split at hv
          · omega
          · unfold dg3
            rw [if_neg (by omega), if_pos (by omega), u8_is a (48 + v / 10) (by omega), u8_is b (48 + v % 10) (by omega)]
  | [a, b, c], _, _, hn, hv =>
    have ha : a.toNat ≠ 48 := fun h => hn ⟨u8_is a 48 h, by simp⟩
    simp only [rdL] at hv
    split at hv
    · omega
    · split at hv
      · omega
      · split at hv
        · omega
        · split at hv
          · omega
          · split at hv
            · omega
            · split at hv
              · omega
              · obtain rfl : v = 100 := by omega
                rw [u8_is a 49 (by omega), u8_is b 48 (by omega), u8_is c 48 (by omega)]
                rfl
  | a :: b :: c :: d :: r, _, _, hn, hv =>
    have ha : a.toNat ≠ 48 := fun h => hn ⟨u8_is a 48 h, by simp⟩
    rw [rdL] at hv
    split at hv
    · omega
    · split at hv
      · omega
      · rw [rdL] at hv
        split at hv
        · omega
        · split at hv
          · omega
          · rw [rdL] at hv
            split at hv
            · omega
            · split at hv
              · omega
              · rw [rdL] at hv
                split at hv
                · omega
                · split at hv
                  · omega
                  · rcases rdL_ge r (10 * (10 * (10 * (10 * 0 + ((a.toNat : Int) - 48)) + ((b.toNat : Int) - 48)) + ((c.toNat : Int) - 48)) + ((d.toNat : Int) - 48)) (by omega) with h | h
                    · rw [h] at hv; omega
                    · rw [hv] at h; omega
theorem dg3_both : ∀ v : Fin 101, 1 ≤ v.val → rd1 (dg3 v.val) = (v.val : Int) ∧ Lib.atoiAll (dg3 v.val) = .ok (v.val : Int) := by decide +kernel
/-- What the program reads of a word: a number whose numeral the word is. -/
def one1 (s : List UInt8) : Option Int := match Lib.atoiAll s with
  | .ok v => if Lib.itoa v = s then some v else none
  | _ => none
theorem one1_dg3 (v : Nat) (h1 : 1 ≤ v) (h2 : v ≤ 100) : one1 (dg3 v) = some (v : Int) := by
  have h := (dg3_both ⟨v, by omega⟩ h1).2
  unfold one1
  rw [show Lib.atoiAll (dg3 v) = .ok (v : Int) from h]
  show (if Lib.itoa (v : Int) = dg3 v then some (v : Int) else none) = _
  rw [itoa_nat, decDigits_dg3 v (by omega), if_pos rfl]
theorem one1_word (s : List UInt8) (x : Int) (h : one1 s = some x) : s = Lib.itoa x := by
  unfold one1 at h
  split at h
  · split at h
    · rename_i hq
      rw [← Option.some.inj h]; exact hq.symm
    · exact absurd h (by simp)
  · exact absurd h (by simp)
def rdN : List (List UInt8) → Option (List Int)
  | [] => some []
  | w :: r => (one1 w).bind fun v => (rdN r).map (v :: ·)
theorem rdN_snoc : ∀ (l : List (List UInt8)) (w : List UInt8), rdN (l ++ [w]) = (rdN l).bind fun acc => (one1 w).map fun v => acc ++ [v]
  | [], w => by
    simp only [List.nil_append, rdN]
    cases one1 w <;> rfl
  | a :: l, w => by
    rw [List.cons_append, rdN, rdN, rdN_snoc l w]
    cases one1 a with
    | none => rfl
    | some v =>
      simp only [Option.bind_some]
      cases rdN l with
      | none => rfl
      | some acc =>
        simp only [Option.bind_some, Option.map_some]
        cases one1 w <;> rfl
theorem atoiAll_lim (x : List UInt8) (v : Int) (h : Lib.atoiAll x = .ok v) : -9223372036854775808 ≤ v ∧ v ≤ 9223372036854775807 := by
  unfold Lib.atoiAll at h
  split at h
  · cases h
  · simp only at h
    split at h
    · cases h
    · cases h
    · split at h
      · cases h
      · split at h
        · cases h
        · rename_i h1 h2
          injection h with h
          subst h
          split <;> omega
theorem rdN_length : ∀ (l : List (List UInt8)) (r : List Int), rdN l = some r → r.length = l.length
  | [], r, h => by
    obtain rfl := Option.some.inj h
    rfl
  | a :: l, r, h => by
    rw [rdN] at h
    cases ha : one1 a with
    | none => rw [ha] at h; exact absurd h (by simp)
    | some v =>
      rw [ha, Option.bind_some] at h
      cases hl : rdN l with
      | none => rw [hl] at h; exact absurd h (by simp)
      | some r' =>
        rw [hl, Option.map_some] at h
        obtain rfl := Option.some.inj h
        rw [List.length_cons, List.length_cons, rdN_length l r' hl]
theorem one1_some (x : List UInt8) (v : Int) (h : one1 x = some v) : Lib.atoiAll x = .ok v ∧ Lib.itoa v = x := by
  unfold one1 at h
  split at h
  · rename_i q hq
    split at h
    · rename_i hi
      obtain rfl := Option.some.inj h
      exact ⟨hq, hi⟩
    · exact absurd h (by simp)
  · exact absurd h (by simp)
theorem one1_no (x : List UInt8) (v : Int) (h : one1 x = none) (hq : Lib.atoiAll x = .ok v) : Lib.itoa v ≠ x := by
  intro hi
  unfold one1 at h
  rw [hq] at h
  simp [hi] at h
theorem rdN_none : ∀ (l : List (List UInt8)) (w : List UInt8), w ∈ l → one1 w = none → rdN l = none
  | a :: l, w, hm, hw => by
    rw [rdN]
    rcases List.mem_cons.1 hm with rfl | hm
    · rw [hw]; rfl
    · rw [rdN_none l w hm hw]
      cases one1 a <;> rfl
theorem rdN_of : ∀ (l : List (List UInt8)), (∀ x ∈ l.map rd1, 1 ≤ x ∧ x ≤ 100) → rdN l = some (l.map rd1)
  | [], _ => rfl
  | a :: l, h => by
    have ha := h (rd1 a) (by simp)
    obtain ⟨v, hv⟩ : ∃ v : Nat, rd1 a = (v : Int) := ⟨(rd1 a).toNat, by omega⟩
    have hw := rd1_word a v hv (by omega) (by omega)
    rw [rdN, rdN_of l (fun x hx => h x (by rw [List.map_cons]; exact List.mem_cons_of_mem _ hx))]
    conv => lhs; rw [hw]
    rw [one1_dg3 v (by omega) (by omega), List.map_cons, hv]; rfl
theorem rdN_back : ∀ (l : List (List UInt8)) (r : List Int), rdN l = some r → (∀ x ∈ r, 1 ≤ x ∧ x ≤ 100) → l.map rd1 = r ∧ l = r.map Lib.itoa
  | [], r, h, _ => by
    obtain rfl := Option.some.inj h
    exact ⟨rfl, rfl⟩
  | a :: l, r, h, hx => by
    rw [rdN] at h
    cases ha : one1 a with
    | none => rw [ha] at h; exact absurd h (by simp)
    | some v =>
      rw [ha, Option.bind_some] at h
      cases hl : rdN l with
      | none => rw [hl] at h; exact absurd h (by simp)
      | some r' =>
        rw [hl, Option.map_some] at h
        obtain rfl := Option.some.inj h
        have hv := hx v (by simp)
        obtain ⟨i1, i2⟩ := rdN_back l r' hl (fun x hx' => hx x (List.mem_cons_of_mem _ hx'))
        have hw := one1_word a v ha
        obtain ⟨u, rfl⟩ : ∃ u : Nat, v = (u : Int) := ⟨v.toNat, by omega⟩
        have hd : Lib.itoa (u : Int) = dg3 u := by rw [itoa_nat, decDigits_dg3 u (by omega)]
        rw [List.map_cons, List.map_cons, i1, ← i2, ← hw]
        refine ⟨?_, rfl⟩
        rw [hw, hd]
        have := (dg3_both ⟨u, by omega⟩ (by show 1 ≤ u; omega)).1
        rw [show rd1 (dg3 u) = (u : Int) from this]
/-- Marks take at most 291 letters. -/
def tLeft (p : Int) : Int := if p < 10 then 292 - 2 * p else if p < 100 then 292 - 18 - 3 * (p - 9) else 0
theorem dg3_len (v : Nat) : (dg3 v).length = if v < 10 then 1 else if v < 100 then 2 else 3 := by
  unfold dg3
  split
  · rfl
  · split <;> rfl
theorem ris_sizes : ∀ (l : List Int) (p : Int), 0 ≤ p → risL 1 100 p l = true → ((((l.map Lib.itoa).map (fun x => x.length + 1)).sum : Nat) : Int) ≤ tLeft p
  | [], p, h0, h => by
    unfold tLeft
    simp only [List.map_nil, List.sum_nil]
    split
    · omega
    · split <;> omega
  | x :: l, p, h0, h => by
    simp only [risL, Bool.and_eq_true, decide_eq_true_eq] at h
    have ih := ris_sizes l x (by omega) h.2.2
    obtain ⟨u, rfl⟩ : ∃ u : Nat, x = (u : Int) := ⟨x.toNat, by omega⟩
    have hd : Lib.itoa (u : Int) = dg3 u := by rw [itoa_nat, decDigits_dg3 u (by omega)]
    have hl := dg3_len u
    rw [List.map_cons, List.map_cons, List.sum_cons, hd]
    generalize ((l.map Lib.itoa).map (fun x => x.length + 1)).sum = q at ih ⊢
    rw [hl]
    unfold tLeft at ih ⊢
    have h1 := h.1
    have h2 := h.2.1
    clear h hl hd
    split at ih <;> split <;> (try split) <;> (try split) <;> (try split at ih) <;> omega
theorem parse_len (s : List UInt8) (r : List Int) (h : spl 45 s = r.map Lib.itoa) (hr : risL 1 100 0 r = true) : s.length ≤ 291 := by
  have h1 := ris_sizes r 0 (by omega) hr
  have h2 := spl_sizes 45 s
  rw [h] at h2
  rw [h2] at h1
  unfold tLeft at h1
  rw [if_pos (by omega)] at h1
  omega

/-! ### slices_reverseRangeOrdered_int: function 101 -/
end Go.Proofs.YtaniojfokildiaaGreatDoor.PrintA
