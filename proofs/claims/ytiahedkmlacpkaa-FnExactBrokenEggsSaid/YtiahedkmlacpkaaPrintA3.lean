-- written by this session's own driver (wip/gen.py) with the kit's print and contracts of our own
import Derived.Test.YtiahedkmlacpkaaPrintA0
import Derived.Test.YtiahedkmlacpkaaPrintA2
namespace Go.Proofs.Ytiahedkmlacpkaa.PrintA
open Go.RowKit Go.Proofs.YtiahedkmlacpkaaW.PrintWords Go.Proofs.YtiahedkmlacpkaaW.PrintLast Go.Proofs.YtiahedkmlacpkaaW.PrintMore
attribute [local go_sem] max2_int min2_int max_two min_two max_three min_three max_four min_four   -- for this text's walks alone
set_option linter.unusedVariables false
set_option linter.unusedSimpArgs false

/-- How far tests reach, at most just above the greatest reach. -/
def rch : Nat → Nat → Int
  | 0, _ => 0
  | _ + 1, 0 => 0
  | t + 1, e + 1 => min 1000000001 (rch t e + rch t (e + 1) + 1)
theorem rch_range : ∀ t e, 0 ≤ rch t e ∧ rch t e ≤ 1000000001
  | 0, _ => by simp [rch]
  | t + 1, 0 => by simp [rch]
  | t + 1, e + 1 => by
    have h1 := rch_range t e
    have h2 := rch_range t (e + 1)
    simp only [rch]
    omega
theorem rch_mono1 : ∀ t e, rch t e ≤ rch (t + 1) e
  | t, 0 => by cases t <;> simp [rch]
  | 0, e + 1 => by have := rch_range 1 (e + 1); simpa [rch] using this.1
  | t + 1, e + 1 => by
    have h1 := rch_mono1 t e
    have h2 := rch_mono1 t (e + 1)
    rw [rch, rch]
    omega
theorem rch_mono {t t' : Nat} (e : Nat) (h : t ≤ t') : rch t e ≤ rch t' e := by
  induction h with
  | refl => exact Int.le_refl _
  | step _ ih => exact Int.le_trans ih (rch_mono1 _ _)
theorem rch_lin : ∀ (t e : Nat), 1 ≤ e → t ≤ 1000000000 → (t : Int) ≤ rch t e
  | 0, _, _, _ => by simp [rch]
  | t + 1, e + 1, _, ht => by
    have h1 := rch_lin t (e + 1) (by omega) (by omega)
    have h2 := (rch_range t e).1
    simp only [rch]
    omega
/-- The fewest tests, 1000 where even these are too few. -/
def few (e : Nat) (n : Int) : Nat := ((List.range 1000).find? (fun t => decide (n ≤ rch t e))).getD 1000
theorem few_le_iff (e : Nat) (n : Int) (m : Nat) (hm : m < 1000) : few e n ≤ m ↔ n ≤ rch m e := by
  unfold few
  cases hf : (List.range 1000).find? (fun t => decide (n ≤ rch t e)) with
  | none =>
    rw [List.find?_eq_none] at hf
    have := hf m (List.mem_range.2 hm)
    simp at this ⊢
    omega
  | some t =>
    have h1 := List.find?_some hf
    simp only [decide_eq_true_eq] at h1
    simp only [Option.getD_some]
    constructor
    · intro h; exact Int.le_trans h1 (rch_mono e h)
    · intro h
      apply Nat.le_of_not_lt
      intro hlt
      rw [List.find?_range_eq_some] at hf
      have := hf.2.2 m hlt
      simp at this
      omega
theorem few_le (e : Nat) (n : Int) : few e n ≤ 1000 := by
  unfold few
  cases hf : (List.range 1000).find? (fun t => decide (n ≤ rch t e)) with
  | none => simp
  | some t => have := List.mem_of_find?_eq_some hf; simp at this ⊢; omega
theorem few_pos (e : Nat) (n : Int) (h : 1 ≤ n) : 1 ≤ few e n := by
  apply Nat.lt_of_not_le
  intro h0
  have := (few_le_iff e n 0 (by omega)).1 h0
  simp [rch] at this
  omega
/-- The least floor of a first drop. -/
def bestF (e : Nat) (n : Int) : Int := max 1 (n - rch (few e n - 1) e)
theorem rch_one : ∀ t, rch t 1 ≤ t
  | 0 => by simp [rch]
  | t + 1 => by
    have h := rch_one t
    have h0 : rch t 0 = 0 := by cases t <;> rfl
    have h1 : rch t (0 + 1) = rch t 1 := rfl
    simp only [rch, h0, h1]
    omega
theorem bestF_range (e : Nat) (n : Int) (h : 1 ≤ n) : 1 ≤ bestF e n ∧ bestF e n ≤ n := by
  unfold bestF
  have := (rch_range (few e n - 1) e).1
  omega
theorem bestF_one (n : Int) (h : 1 ≤ n) (h2 : n ≤ 1000) : bestF 1 n = 1 := by
  unfold bestF
  have h3 := few_le 1 n
  have h4 := few_pos 1 n h
  have h5 : n ≤ few 1 n := by
    by_cases hf : few 1 n < 1000
    · exact Int.le_trans ((few_le_iff 1 n (few 1 n) hf).1 (Nat.le_refl _)) (rch_one _)
    · omega
  have h6 := rch_lin (few 1 n - 1) 1 (by omega) (by omega)
  omega
/-- A row of the table, of which the upper part is one test on. -/
def rowL (t x e : Nat) : List Int := (List.range (e + 1)).map (fun j => if x < j then rch (t + 1) j else rch t j)
theorem rowL_len (t x e : Nat) : (rowL t x e).length = e + 1 := by simp [rowL]
theorem rowL_rd (t x e j : Nat) (h : j ≤ e) : rd (rowL t x e) (j : Int) = if x < j then rch (t + 1) j else rch t j := by
  simp [rowL, rd, List.getD_eq_getElem?_getD, List.getElem?_map, List.getElem?_range (by omega : j < e + 1)]
theorem rowL_set (t x e : Nat) (h1 : 1 ≤ x) : (rowL t x e).set x (rch (t + 1) x) = rowL t (x - 1) e := by
  apply List.ext_getElem
  · simp [rowL]
  · intro i a b
    simp only [rowL, List.getElem_set, List.getElem_map, List.getElem_range]
    by_cases h : x = i
    · subst h; rw [if_pos rfl, if_pos (by omega)]
    · rw [if_neg h]
      by_cases h' : x < i
      · rw [if_pos h', if_pos (by omega)]
      · rw [if_neg h', if_neg (by omega)]
theorem rowL_zero (t e : Nat) : rowL t 0 e = rowL (t + 1) e e := by
  apply List.ext_getElem
  · simp [rowL]
  · intro i a b
    simp only [rowL, List.getElem_map, List.getElem_range]
    have hi : i < e + 1 := by simpa [rowL] using a
    rw [if_neg (by omega : ¬ e < i)]
    by_cases h : 0 < i
    · rw [if_pos h]
    · obtain rfl : i = 0 := by omega
      rw [if_neg (by omega)]
      cases t <;> rfl
theorem rowL_start (e : Nat) : List.replicate (e + 1) (0 : Int) = rowL 0 e e := by
  apply List.ext_getElem
  · simp [rowL]
  · intro i a b
    simp only [rowL, List.getElem_map, List.getElem_range, List.getElem_replicate]
    have hi : i < e + 1 := by simpa [rowL] using b
    rw [if_neg (by omega : ¬ e < i)]; rfl
theorem few_step (e : Nat) (n : Int) (he : 1 ≤ e) (hn : n ≤ 1000) (t : Nat) (ht : t ≤ few e n) : rch t e < n ↔ t < few e n := by
  have h1 := few_le e n
  by_cases h : t < 1000
  · have := few_le_iff e n t h
    omega
  · obtain rfl : t = 1000 := by omega
    have := rch_lin 1000 e he (by omega)
    omega
def reachArr (p i : Nat) : Int := if i < p then rch (i / 11) (i % 11) else 0
theorem reachArr_start (i : Nat) : reachArr 12 i = 0 := by
  unfold reachArr
  split
  · by_cases h : i < 11
    · rw [show i / 11 = 0 by omega]; rfl
    · rw [show i / 11 = 1 by omega, show i % 11 = 0 by omega]; rfl
  · rfl
theorem reachArr_row (t i : Nat) : reachArr (t * 11 + 11) i = reachArr ((t + 1) * 11 + 1) i := by
  unfold reachArr
  by_cases h : i < t * 11 + 11
  · rw [if_pos h, if_pos (by omega)]
  · rw [if_neg h]
    by_cases e : i = (t + 1) * 11
    · rw [if_pos (by omega), e, show (t + 1) * 11 / 11 = t + 1 by omega, show (t + 1) * 11 % 11 = 0 by omega]; rfl
    · rw [if_neg (by omega)]
theorem reachArr_set (t e i : Nat) (h1 : 1 ≤ t) (h2 : 1 ≤ e) (h3 : e ≤ 10) : updI (reachArr (t * 11 + e)) (t * 11 + e) (min 1000000001 (rch (t - 1) (e - 1) + rch (t - 1) e + 1)) i = reachArr (t * 11 + (e + 1)) i := by
  unfold updI reachArr
  by_cases h : i = t * 11 + e
  · rw [if_pos h, if_pos (by omega), h, show (t * 11 + e) / 11 = t by omega, show (t * 11 + e) % 11 = e by omega]
    obtain ⟨t', rfl⟩ : ∃ t', t = t' + 1 := ⟨t - 1, by omega⟩
    obtain ⟨e', rfl⟩ : ∃ e', e = e' + 1 := ⟨e - 1, by omega⟩
    rfl
  · rw [if_neg h]
    by_cases h' : i < t * 11 + e
    · rw [if_pos h', if_pos (by omega)]
    · rw [if_neg h', if_neg (by omega)]
/-- The table of reaches, in block g. -/
def IsReaches (w : World) (g : Nat) : Prop := ArrI w g 71 11011 (reachArr 11011)
theorem IsReaches.at_ {w : World} {g : Nat} (h : IsReaches w g) (t e : Nat) (ht : t ≤ 1000) (he : e ≤ 10) : w.cell? ⟨g, t * 11 + e, none⟩ = some (.int .i64 (rch t e)) := by
  have := ArrI.cell h (t * 11 + e) (by omega)
  rw [this]; unfold reachArr
  rw [if_pos (by omega), show (t * 11 + e) / 11 = t by omega, show (t * 11 + e) % 11 = e by omega]
theorem IsReaches.below {w w1 : World} {g : Nat} (h : IsReaches w g) (hb : Below w.heap.size w w1) : IsReaches w1 g := ArrI.below h hb
end Go.Proofs.Ytiahedkmlacpkaa.PrintA
