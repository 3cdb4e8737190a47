/- Plain laws on numbers and lists (Houses), without any program. Conditions: those of each lemma. -/
set_option linter.unusedVariables false
set_option linter.unusedSimpArgs false
namespace Go.Proofs.YtkflioekhadebaaLib
/-- How many eggs are needed. -/
def hNeed : List Int → Int
  | [] => 0
  | x :: r => (if 0 < x then 1 else 0) + hNeed r
def hSum : List Int → Nat
  | [] => 0
  | x :: r => x.toNat + hSum r
def hRow (h : Nat) (n : Int) : List (Nat × Int) := (List.range n.toNat).map (fun (i : Nat) => (h, 1 + (i : Int)))
def hFrom : Nat → List Int → List (Nat × Int)
  | _, [] => []
  | h, x :: r => hRow h x ++ hFrom (h + 1) r
/-- All drops: house and floor. -/
def hTests (l : List Int) : List (Nat × Int) := hFrom 0 l
def hNever : Int := 1125899906842624
def hBr (l : List Int) (t : Nat × Int) : List Int := l.set t.1 (t.2 - 1)
def hWh (l : List Int) (t : Nat × Int) : List Int := l.set t.1 (l.getD t.1 0 - t.2)
def hF : Nat → Int → List Int → Int
  | 0, _, _ => 0
  | n + 1, e, l => if hNeed l = 0 then 0 else if e < hNeed l then hNever else (hTests l).foldl (fun o t => min o (1 + max (hF n (e - 1) (hBr l t)) (hF n e (hWh l t)))) hNever
def hOk (l : List Int) : Prop := ∀ x ∈ l, 0 ≤ x ∧ x ≤ 8
theorem hNeed_nonneg : ∀ l, 0 ≤ hNeed l
  | [] => Int.le_refl _
  | x :: r => by have := hNeed_nonneg r; unfold hNeed; split <;> omega
theorem hRow_mem (h : Nat) (n : Int) (t : Nat × Int) : t ∈ hRow h n ↔ t.1 = h ∧ 1 ≤ t.2 ∧ t.2 ≤ n := by
  simp only [hRow, List.mem_map, List.mem_range]
  constructor
  · rintro ⟨i, hi, rfl⟩
    exact ⟨rfl, by simp; omega, by simp; omega⟩
  · rintro ⟨h1, h2, h3⟩
    refine ⟨(t.2 - 1).toNat, by omega, ?_⟩
    obtain ⟨x, y⟩ := t
    simp at *
    exact ⟨h1.symm, by omega⟩
theorem hRow_succ (h : Nat) (i : Nat) : hRow h ((i + 1 : Nat) : Int) = hRow h (i : Int) ++ [(h, 1 + (i : Int))] := by
  unfold hRow
  rw [show ((i + 1 : Nat) : Int).toNat = i + 1 by omega, show ((i : Nat) : Int).toNat = i by omega, List.range_succ, List.map_append]
  rfl
theorem hFrom_mem : ∀ (l : List Int) (h : Nat) (t : Nat × Int), t ∈ hFrom h l ↔ h ≤ t.1 ∧ t.1 < h + l.length ∧ 1 ≤ t.2 ∧ t.2 ≤ l.getD (t.1 - h) 0
  | [], h, t => by simp [hFrom]; omega
  | x :: r, h, t => by
    rw [hFrom, List.mem_append, hRow_mem, hFrom_mem r (h + 1) t, List.length_cons]
    by_cases he : t.1 = h
    · rw [he, Nat.sub_self, List.getD_cons_zero]
      constructor
      · rintro (⟨_, h2, h3⟩ | ⟨h1, _⟩)
        · exact ⟨Nat.le_refl _, by omega, h2, h3⟩
        · omega
      · rintro ⟨_, _, h2, h3⟩
        exact Or.inl ⟨rfl, h2, h3⟩
    · constructor
      · rintro (⟨h1, _⟩ | ⟨h1, h2, h3, h4⟩)
        · exact absurd h1 he
        · refine ⟨by omega, by omega, h3, ?_⟩
          rw [show t.1 - h = (t.1 - (h + 1)) + 1 by omega, List.getD_cons_succ]; exact h4
      · rintro ⟨h1, h2, h3, h4⟩
        refine Or.inr ⟨by omega, by omega, h3, ?_⟩
        rw [show t.1 - h = (t.1 - (h + 1)) + 1 by omega, List.getD_cons_succ] at h4; exact h4
theorem hTests_mem (l : List Int) (t : Nat × Int) : t ∈ hTests l ↔ t.1 < l.length ∧ 1 ≤ t.2 ∧ t.2 ≤ l.getD t.1 0 := by
  unfold hTests
  rw [hFrom_mem]
  simp
theorem hSum_set : ∀ (l : List Int) (i : Nat) (x : Int), i < l.length → hSum (l.set i x) + (l.getD i 0).toNat = hSum l + x.toNat
  | [], i, x, h => by simp at h
  | y :: r, 0, x, _ => by simp [hSum]; omega
  | y :: r, i + 1, x, h => by
    have := hSum_set r i x (by simpa using h)
    simp only [List.set_cons_succ, hSum, List.getD_cons_succ]
    omega
theorem hNeed_set : ∀ (l : List Int) (i : Nat) (x : Int), i < l.length → hNeed (l.set i x) + (if 0 < l.getD i 0 then 1 else 0) = hNeed l + (if 0 < x then 1 else 0)
  | [], i, x, h => by simp at h
  | y :: r, 0, x, _ => by simp only [List.set_cons_zero, hNeed, List.getD_cons_zero]; omega
  | y :: r, i + 1, x, h => by
    have := hNeed_set r i x (by simpa using h)
    simp only [List.set_cons_succ, hNeed, List.getD_cons_succ]
    omega
theorem hOk_get {l : List Int} (h : hOk l) (i : Nat) : 0 ≤ l.getD i 0 ∧ l.getD i 0 ≤ 8 := by
  by_cases hi : i < l.length
  · rw [List.getD_eq_getElem?_getD, List.getElem?_eq_getElem hi]
    exact h _ (List.getElem_mem hi)
  · rw [List.getD_eq_getElem?_getD, List.getElem?_eq_none (by omega)]
    decide
theorem hOk_set {l : List Int} (h : hOk l) (i : Nat) (x : Int) (hx : 0 ≤ x ∧ x ≤ 8) : hOk (l.set i x) := by
  intro y hy
  rcases List.mem_or_eq_of_mem_set hy with h1 | h1
  · exact h y h1
  · rw [h1]; exact hx
theorem hBr_ok {l : List Int} (h : hOk l) (t : Nat × Int) (ht : t ∈ hTests l) : hOk (hBr l t) ∧ hSum (hBr l t) < hSum l := by
  obtain ⟨h1, h2, h3⟩ := (hTests_mem l t).1 ht
  have hg := hOk_get h t.1
  have hs := hSum_set l t.1 (t.2 - 1) h1
  exact ⟨hOk_set h _ _ (by omega), by unfold hBr; omega⟩
theorem hWh_ok {l : List Int} (h : hOk l) (t : Nat × Int) (ht : t ∈ hTests l) : hOk (hWh l t) ∧ hSum (hWh l t) < hSum l := by
  obtain ⟨h1, h2, h3⟩ := (hTests_mem l t).1 ht
  have hg := hOk_get h t.1
  have hs := hSum_set l t.1 (l.getD t.1 0 - t.2) h1
  exact ⟨hOk_set h _ _ (by omega), by unfold hWh; omega⟩
theorem hFold_congr {α β : Type} (f g : β → α → β) : ∀ (l : List α) (b : β), (∀ x ∈ l, ∀ b, f b x = g b x) → l.foldl f b = l.foldl g b
  | [], _, _ => rfl
  | x :: r, b, h => by
    rw [List.foldl_cons, List.foldl_cons, h x List.mem_cons_self b]
    exact hFold_congr f g r _ (fun y hy => h y (List.mem_cons_of_mem _ hy))
theorem hF_fuel : ∀ (n m : Nat) (e : Int) (l : List Int), hOk l → hSum l < n → hSum l < m → hF n e l = hF m e l
  | 0, _, _, _, _, h, _ => absurd h (Nat.not_lt_zero _)
  | _ + 1, 0, _, _, _, _, h => absurd h (Nat.not_lt_zero _)
  | n + 1, m + 1, e, l, hk, hn, hm => by
    rw [hF, hF]
    split
    · rfl
    · split
      · rfl
      · refine hFold_congr _ _ _ _ (fun t ht o => ?_)
        have h1 := hBr_ok hk t ht
        have h2 := hWh_ok hk t ht
        rw [hF_fuel n m (e - 1) _ h1.1 (by omega) (by omega), hF_fuel n m e _ h2.1 (by omega) (by omega)]
/-- The least number of drops, or never. -/
def hVal (e : Int) (l : List Int) : Int := hF (hSum l + 1) e l
def hW (e : Int) (l : List Int) (t : Nat × Int) : Int := 1 + max (hVal (e - 1) (hBr l t)) (hVal e (hWh l t))
def hFold (e : Int) (l : List Int) (ts : List (Nat × Int)) (o : Int) : Int := ts.foldl (fun o t => min o (hW e l t)) o
theorem hVal_eq (e : Int) (l : List Int) (hk : hOk l) : hVal e l = if hNeed l = 0 then 0 else if e < hNeed l then hNever else hFold e l (hTests l) hNever := by
  show hF (hSum l + 1) e l = _
  rw [hF]
  split
  · rfl
  · split
    · rfl
    · refine hFold_congr _ _ _ _ (fun t ht o => ?_)
      have h1 := hBr_ok hk t ht
      have h2 := hWh_ok hk t ht
      unfold hW hVal
      rw [hF_fuel (hSum l) (hSum (hBr l t) + 1) (e - 1) _ h1.1 (by omega) (by omega), hF_fuel (hSum l) (hSum (hWh l t) + 1) e _ h2.1 (by omega) (by omega)]
theorem hFold_append (e : Int) (l : List Int) (x y : List (Nat × Int)) (o : Int) : hFold e l (x ++ y) o = hFold e l y (hFold e l x o) := List.foldl_append
theorem hFold_le (e : Int) (l : List Int) : ∀ (ts : List (Nat × Int)) (o : Int), hFold e l ts o ≤ o
  | [], _ => Int.le_refl _
  | t :: r, o => by
    have := hFold_le e l r (min o (hW e l t))
    show hFold e l r (min o (hW e l t)) ≤ o
    omega
theorem hFold_mem (e : Int) (l : List Int) : ∀ (ts : List (Nat × Int)) (o : Int) (t : Nat × Int), t ∈ ts → hFold e l ts o ≤ hW e l t
  | x :: r, o, t, h => by
    show hFold e l r (min o (hW e l x)) ≤ _
    rcases List.mem_cons.1 h with rfl | h
    · have := hFold_le e l r (min o (hW e l t)); omega
    · exact hFold_mem e l r _ t h
theorem hF_range : ∀ (n : Nat) (e : Int) (l : List Int), 0 ≤ hF n e l ∧ hF n e l ≤ hNever
  | 0, _, _ => by simp [hF, hNever]
  | n + 1, e, l => by
    rw [hF]
    split
    · simp [hNever]
    · split
      · simp [hNever]
      · have hg : ∀ (ts : List (Nat × Int)) (o : Int), 0 ≤ o → o ≤ hNever → 0 ≤ ts.foldl (fun o t => min o (1 + max (hF n (e - 1) (hBr l t)) (hF n e (hWh l t)))) o ∧ ts.foldl (fun o t => min o (1 + max (hF n (e - 1) (hBr l t)) (hF n e (hWh l t)))) o ≤ hNever := by
          intro ts
          induction ts with
          | nil => intro o h1 h2; exact ⟨h1, h2⟩
          | cons t r ih =>
            intro o h1 h2
            rw [List.foldl_cons]
            have := (hF_range n (e - 1) (hBr l t)).1
            exact ih _ (by omega) (by omega)
        exact hg _ _ (by decide) (Int.le_refl _)
theorem hVal_range (e : Int) (l : List Int) : 0 ≤ hVal e l ∧ hVal e l ≤ hNever := hF_range _ e l
theorem hW_range (e : Int) (l : List Int) (t : Nat × Int) : 1 ≤ hW e l t ∧ hW e l t ≤ hNever + 1 := by
  have h1 := hVal_range (e - 1) (hBr l t)
  have h2 := hVal_range e (hWh l t)
  unfold hW; omega
theorem hNeed_pos : ∀ (l : List Int), hNeed l ≠ 0 → ∃ i, i < l.length ∧ 0 < l.getD i 0
  | [], h => absurd rfl h
  | x :: r, h => by
    by_cases hx : 0 < x
    · exact ⟨0, by simp, by simpa using hx⟩
    · rw [hNeed, if_neg hx] at h
      obtain ⟨i, h1, h2⟩ := hNeed_pos r (by omega)
      exact ⟨i + 1, by simp; omega, by simpa using h2⟩
/-- With eggs enough there is a plan. -/
theorem hVal_le : ∀ (m : Nat) (e : Int) (l : List Int), hOk l → hSum l ≤ m → hNeed l ≤ e → hVal e l ≤ hSum l := by
  intro m
  induction m with
  | zero =>
    intro e l hk hm he
    rw [hVal_eq e l hk]
    by_cases h0 : hNeed l = 0
    · rw [if_pos h0]; omega
    · obtain ⟨i, h1, h2⟩ := hNeed_pos l h0
      have := hSum_set l i 0 h1
      omega
  | succ m ih =>
    intro e l hk hm he
    rw [hVal_eq e l hk]
    by_cases h0 : hNeed l = 0
    · rw [if_pos h0]; omega
    · rw [if_neg h0, if_neg (by omega)]
      obtain ⟨i, h1, h2⟩ := hNeed_pos l h0
      have ht : (i, (1 : Int)) ∈ hTests l := (hTests_mem l _).2 ⟨h1, Int.le_refl _, by simp only; omega⟩
      have b1 := hBr_ok hk _ ht
      have b2 := hWh_ok hk _ ht
      have n1 := hNeed_set l i 0 h1
      have n2 := hNeed_set l i (l.getD i 0 - 1) h1
      rw [if_pos h2, if_neg (by omega)] at n1
      rw [if_pos h2] at n2
      have n2' : hNeed (l.set i (l.getD i 0 - 1)) ≤ hNeed l := by
        split at n2 <;> omega
      have i1 := ih (e - 1) (hBr l (i, 1)) b1.1 (by omega) (by show hNeed (l.set i (1 - 1)) ≤ e - 1; rw [show (1 : Int) - 1 = 0 from rfl]; omega)
      have i2 := ih e (hWh l (i, 1)) b2.1 (by omega) (by show hNeed (l.set i (l.getD i 0 - 1)) ≤ e; omega)
      have i3 := hFold_mem e l (hTests l) hNever _ ht
      unfold hW at i3
      omega
/-- The reference's numbers: no more than 1000. -/
def hS (e : Int) (l : List Int) : Int := min 1000 (hVal e l)
def hSW (e : Int) (l : List Int) (t : Nat × Int) : Int := min 1000 (1 + max (hS (e - 1) (hBr l t)) (hS e (hWh l t)))
theorem hSW_eq (e : Int) (l : List Int) (t : Nat × Int) : hSW e l t = min 1000 (hW e l t) := by
  unfold hSW hS hW; omega
def hSFold (e : Int) (l : List Int) (ts : List (Nat × Int)) (o : Int) : Int := ts.foldl (fun o t => min o (hSW e l t)) o
theorem hSFold_eq (e : Int) (l : List Int) : ∀ (ts : List (Nat × Int)) (o : Int), hSFold e l ts (min 1000 o) = min 1000 (hFold e l ts o)
  | [], _ => rfl
  | t :: r, o => by
    show hSFold e l r (min (min 1000 o) (hSW e l t)) = min 1000 (hFold e l r (min o (hW e l t)))
    rw [hSW_eq, ← hSFold_eq e l r]
    congr 1
    omega
theorem hSFold_append (e : Int) (l : List Int) (x y : List (Nat × Int)) (o : Int) : hSFold e l (x ++ y) o = hSFold e l y (hSFold e l x o) := List.foldl_append
theorem hS_eq (e : Int) (l : List Int) (hk : hOk l) : hS e l = if hNeed l = 0 then 0 else if e < hNeed l then 1000 else hSFold e l (hTests l) 1000 := by
  unfold hS
  rw [hVal_eq e l hk]
  split
  · rfl
  · split
    · rfl
    · rw [← hSFold_eq]; rfl
theorem hS_range (e : Int) (l : List Int) : 0 ≤ hS e l ∧ hS e l ≤ 1000 := by
  have := hVal_range e l
  unfold hS; omega
theorem hSW_range (e : Int) (l : List Int) (t : Nat × Int) : 0 ≤ hSW e l t ∧ hSW e l t ≤ 1000 := by
  have := hW_range e l t
  rw [hSW_eq]; omega
/-- A house without floors more. -/
theorem hFrom_zero : ∀ (l : List Int) (h : Nat), hFrom h (l ++ [0]) = hFrom h l
  | [], h => rfl
  | x :: r, h => by
    show hRow h x ++ hFrom (h + 1) (r ++ [0]) = hRow h x ++ hFrom (h + 1) r
    rw [hFrom_zero r (h + 1)]
theorem hNeed_zero : ∀ (l : List Int), hNeed (l ++ [0]) = hNeed l
  | [] => rfl
  | x :: r => by
    show _ + hNeed (r ++ [0]) = _ + hNeed r
    rw [hNeed_zero r]
theorem hSum_zero : ∀ (l : List Int), hSum (l ++ [0]) = hSum l
  | [] => rfl
  | x :: r => by
    show _ + hSum (r ++ [0]) = _ + hSum r
    rw [hSum_zero r]
theorem hF_zero : ∀ (n : Nat) (e : Int) (l : List Int), hF n e (l ++ [0]) = hF n e l
  | 0, _, _ => rfl
  | n + 1, e, l => by
    rw [hF, hF, hNeed_zero]
    split
    · rfl
    · split
      · rfl
      · have ht : hTests (l ++ [0]) = hTests l := hFrom_zero l 0
        rw [ht]
        refine hFold_congr _ _ _ _ (fun t hm o => ?_)
        obtain ⟨h1, _, _⟩ := (hTests_mem l t).1 hm
        have e1 : hBr (l ++ [0]) t = hBr l t ++ [0] := by
          unfold hBr; rw [List.set_append_left _ _ h1]
        have e2 : hWh (l ++ [0]) t = hWh l t ++ [0] := by
          unfold hWh
          rw [List.set_append_left _ _ h1]
          congr 2
          rw [List.getD_eq_getElem?_getD, List.getD_eq_getElem?_getD, List.getElem?_append_left h1]
        rw [e1, e2, hF_zero n, hF_zero n]
theorem hVal_zero (e : Int) (l : List Int) : hVal e (l ++ [0]) = hVal e l := by
  unfold hVal
  rw [hSum_zero, hF_zero]
/-- The houses as three. -/
def hPad (l : List Int) : List Int := [l.getD 0 0, l.getD 1 0, l.getD 2 0]
theorem hPad_of (l : List Int) (h1 : 1 ≤ l.length) (h3 : l.length ≤ 3) : hPad l = l ∨ hPad l = l ++ [0] ∨ hPad l = (l ++ [0]) ++ [0] := by
  match l, h1, h3 with
  | [x], _, _ => exact Or.inr (Or.inr rfl)
  | [x, y], _, _ => exact Or.inr (Or.inl rfl)
  | [x, y, z], _, _ => exact Or.inl rfl
  | [], h, _ => simp at h
  | _ :: _ :: _ :: _ :: _, _, h => simp at h
theorem hVal_pad (e : Int) (l : List Int) (h1 : 1 ≤ l.length) (h3 : l.length ≤ 3) : hVal e (hPad l) = hVal e l := by
  rcases hPad_of l h1 h3 with h | h | h <;> rw [h]
  · exact hVal_zero e l
  · rw [hVal_zero, hVal_zero]
theorem hNeed_pad (l : List Int) (h1 : 1 ≤ l.length) (h3 : l.length ≤ 3) : hNeed (hPad l) = hNeed l := by
  rcases hPad_of l h1 h3 with h | h | h <;> rw [h]
  · exact hNeed_zero l
  · rw [hNeed_zero, hNeed_zero]
theorem hPad_ok {l : List Int} (h : hOk l) : hOk (hPad l) := by
  intro x hx
  simp only [hPad, List.mem_cons, List.mem_nil_iff, or_false] at hx
  rcases hx with rfl | rfl | rfl <;> exact hOk_get h _
theorem hSum_le3 (l : List Int) (h : hOk l) (h3 : l.length ≤ 3) : hSum l ≤ 24 := by
  match l, h3 with
  | [], _ => simp [hSum]
  | [x], _ => have := h x (by simp); simp [hSum]; omega
  | [x, y], _ => have := h x (by simp); have := h y (by simp); simp [hSum]; omega
  | [x, y, z], _ => have := h x (by simp); have := h y (by simp); have := h z (by simp); simp [hSum]; omega
  | _ :: _ :: _ :: _ :: _, h => simp at h
theorem hVal_24 (e : Int) (l : List Int) (h : hOk l) (h3 : l.length ≤ 3) (he : hNeed l ≤ e) : hVal e l ≤ 24 ∧ hS e l = hVal e l := by
  have h1 := hVal_le (hSum l) e l h (Nat.le_refl _) he
  have h2 := hSum_le3 l h h3
  unfold hS
  omega
/-- The place of a state in the table. -/
def hPl (e : Int) (l : List Int) : Nat := (((e * 9 + l.getD 0 0) * 9 + l.getD 1 0) * 9 + l.getD 2 0).toNat
theorem hPl_cast {e : Int} {l : List Int} (h : hOk l) (h0 : 0 ≤ e) (h6 : e ≤ 6) : ((hPl e l : Nat) : Int) = ((e * 9 + l.getD 0 0) * 9 + l.getD 1 0) * 9 + l.getD 2 0 := by
  have := hOk_get h 0
  have := hOk_get h 1
  have := hOk_get h 2
  unfold hPl; omega
theorem hPl_lt {e : Int} {l : List Int} (h : hOk l) (h0 : 0 ≤ e) (h6 : e ≤ 6) : hPl e l < 5103 := by
  have := hOk_get h 0
  have := hOk_get h 1
  have := hOk_get h 2
  have := hPl_cast h h0 h6
  omega
theorem hPl_inj {e e' : Int} {l l' : List Int} (h : hOk l) (h' : hOk l') (h0 : 0 ≤ e) (h6 : e ≤ 6) (h0' : 0 ≤ e') (h6' : e' ≤ 6) (q : hPl e l = hPl e' l') : e = e' ∧ hPad l = hPad l' := by
  have e1 := hPl_cast h h0 h6
  have e2 := hPl_cast h' h0' h6'
  rw [q, e2] at e1
  have := hOk_get h 0
  have := hOk_get h 1
  have := hOk_get h 2
  have := hOk_get h' 0
  have := hOk_get h' 1
  have := hOk_get h' 2
  have hh : e = e' ∧ l.getD 0 0 = l'.getD 0 0 ∧ l.getD 1 0 = l'.getD 1 0 ∧ l.getD 2 0 = l'.getD 2 0 := by
    clear q e2
    refine ⟨?_, ?_, ?_, ?_⟩ <;> omega
  obtain ⟨r1, r2, r3, r4⟩ := hh
  refine ⟨r1, ?_⟩
  unfold hPad
  rw [r2, r3, r4]
def HTab (t : List Int) : Prop := t.length = 5103 ∧ ∀ (e : Int) (l : List Int), hOk l → 1 ≤ l.length → l.length ≤ 3 → 0 ≤ e → e ≤ 6 → t.getD (hPl e l) 0 = -1 ∨ t.getD (hPl e l) 0 = hS e l
def hTab0 : List Int := List.replicate 5103 (-1)
theorem HTab.start : HTab hTab0 := by
  unfold hTab0
  refine ⟨List.length_replicate, fun e l hk _ _ h0 h6 => Or.inl ?_⟩
  have := hPl_lt hk h0 h6
  rw [List.getD_eq_getElem?_getD, List.getElem?_replicate, if_pos this]
  rfl
theorem HTab.put {t : List Int} (h : HTab t) {e : Int} {l : List Int} (hk : hOk l) (h1 : 1 ≤ l.length) (h3 : l.length ≤ 3) (h0 : 0 ≤ e) (h6 : e ≤ 6) : HTab (t.set (hPl e l) (hS e l)) := by
  refine ⟨by rw [List.length_set]; exact h.1, fun e' l' hk' h1' h3' h0' h6' => ?_⟩
  by_cases he : hPl e l = hPl e' l'
  · obtain ⟨r1, r2⟩ := hPl_inj hk hk' h0 h6 h0' h6' he
    right
    have := hPl_lt hk h0 h6
    rw [← he, List.getD_eq_getElem?_getD, List.getElem?_set_self (by rw [h.1]; exact this)]
    show hS e l = hS e' l'
    unfold hS
    rw [← hVal_pad e l h1 h3, ← hVal_pad e' l' h1' h3', r1, r2]
  · rw [List.getD_eq_getElem?_getD, List.getElem?_set_ne he, ← List.getD_eq_getElem?_getD]
    exact h.2 e' l' hk' h1' h3' h0' h6'
/-- One element more is counted. -/
theorem countP_step {α : Type} (p q : α → Bool) : ∀ (l : List α) (x : α), x ∈ l → (∀ y ∈ l, p y = true → q y = true) → p x = false → q x = true → l.countP p + 1 ≤ l.countP q
  | y :: r, x, hx, hpq, hp, hq => by
    rw [List.countP_cons, List.countP_cons]
    have hle : r.countP p ≤ r.countP q := List.countP_mono_left (fun z hz => hpq z (List.mem_cons_of_mem _ hz))
    rcases List.mem_cons.1 hx with rfl | hx
    · rw [hp, hq]; simp; omega
    · have := countP_step p q r x hx (fun z hz => hpq z (List.mem_cons_of_mem _ hz)) hp hq
      have hy := hpq y List.mem_cons_self
      cases hpy : p y
      · simp; split <;> omega
      · rw [hy hpy]; simp; omega

end Go.Proofs.YtkflioekhadebaaLib
