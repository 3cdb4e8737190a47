/- Plain laws on numbers and lists (Cost), without any program. Conditions: those of each lemma. -/
set_option linter.unusedVariables false
set_option linter.unusedSimpArgs false
namespace Go.Proofs.YtkbmefmnfoalhaaLib
/-- The least of never and g 1, .., g n. -/
def minF (nv : Int) : Nat → (Nat → Int) → Int
  | 0, _ => nv
  | n + 1, g => min (minF nv n g) (g (n + 1))
theorem minF_congr (nv : Int) (g g' : Nat → Int) : ∀ n, (∀ f, 1 ≤ f → f ≤ n → g f = g' f) → minF nv n g = minF nv n g'
  | 0, _ => rfl
  | n + 1, h => by
    rw [minF, minF, minF_congr nv g g' n (fun f h1 h2 => h f h1 (by omega)), h (n + 1) (by omega) (by omega)]
theorem minF_le (nv : Int) (g : Nat → Int) : ∀ n f, 1 ≤ f → f ≤ n → minF nv n g ≤ g f
  | 0, f, h1, h2 => by omega
  | n + 1, f, h1, h2 => by
    rw [minF]
    by_cases e : f = n + 1
    · subst e; omega
    · have := minF_le nv g n f h1 (by omega); omega
theorem minF_le_nv (nv : Int) (g : Nat → Int) : ∀ n, minF nv n g ≤ nv
  | 0 => Int.le_refl _
  | n + 1 => by rw [minF]; have := minF_le_nv nv g n; omega
theorem minF_ge (nv b : Int) (g : Nat → Int) : ∀ n, b ≤ nv → (∀ f, 1 ≤ f → f ≤ n → b ≤ g f) → b ≤ minF nv n g
  | 0, h, _ => h
  | n + 1, h, hg => by
    rw [minF]
    have h1 := minF_ge nv b g n h (fun f h1 h2 => hg f h1 (by omega))
    have h2 := hg (n + 1) (by omega) (by omega)
    omega
/-- What the first test costs on the way. -/
def wayI (n s f : Nat) : Int := if s = 1 then (n : Int) + 1 - f else f
def cstT (E T C : Int) : Nat → Nat → Nat → Nat → Int
  | 0, _, _, _ => 0
  | n + 1, e, m, s => if m ≤ n then cstT E T C n e m s else if e = 0 then 1125899906842624 else
      minF 1125899906842624 (n + 1) (fun f => T + C * wayI (n + 1) s f + max (E + cstT E T C n (e - 1) (f - 1) 1) (cstT E T C n e (n + 1 - f) 0))
/-- The greatest cost of the cheapest plans: of e eggs and n floors, from below (s = 0) or above (s = 1). -/
def cst (E T C : Int) (e n s : Nat) : Int := cstT E T C n e n s
theorem cstT_stable (E T C : Int) (e m s : Nat) : ∀ n, m ≤ n → cstT E T C n e m s = cst E T C e m s := by
  intro n
  induction n with
  | zero => intro h; obtain rfl : m = 0 := by omega
            rfl
  | succ n ih =>
    intro h
    by_cases hm : m ≤ n
    · rw [cstT, if_pos hm]; exact ih hm
    · obtain rfl : m = n + 1 := by omega
      rfl
theorem cst_zero (E T C : Int) (e s : Nat) : cst E T C e 0 s = 0 := rfl
theorem cst_no_egg (E T C : Int) (n s : Nat) : cst E T C 0 (n + 1) s = 1125899906842624 := by
  unfold cst; rw [cstT, if_neg (by omega), if_pos rfl]
def firstG (E T C : Int) (e n s f : Nat) : Int := T + C * wayI n s f + max (E + cst E T C (e - 1) (f - 1) 1) (cst E T C e (n - f) 0)
theorem cst_eq (E T C : Int) (e n s : Nat) (he : 1 ≤ e) (hn : 1 ≤ n) : cst E T C e n s = minF 1125899906842624 n (firstG E T C e n s) := by
  obtain ⟨n, rfl⟩ : ∃ m, n = m + 1 := ⟨n - 1, by omega⟩
  show cstT E T C (n + 1) e (n + 1) s = _
  rw [cstT, if_neg (by omega), if_neg (by omega)]
  apply minF_congr
  intro f h1 h2
  unfold firstG
  rw [cstT_stable _ _ _ _ _ _ _ (by omega), cstT_stable _ _ _ _ _ _ _ (by omega)]
structure Prs (E T C : Int) : Prop where
  e0 : 0 ≤ E
  e1 : E ≤ 1000
  t0 : 0 ≤ T
  t1 : T ≤ 1000
  c0 : 0 ≤ C
  c1 : C ≤ 1000
theorem way_range (n s f : Nat) (h1 : 1 ≤ f) (h2 : f ≤ n) : 1 ≤ wayI n s f ∧ wayI n s f ≤ n := by
  unfold wayI; split <;> omega
theorem mulC {C x : Int} (c0 : 0 ≤ C) (c1 : C ≤ 1000) (x0 : 0 ≤ x) (x1 : x ≤ 60) : 0 ≤ C * x ∧ C * x ≤ 60000 :=
  ⟨Int.mul_nonneg c0 x0, by have := Int.mul_le_mul c1 x1 x0 (by omega); omega⟩
theorem cst_range {E T C : Int} (p : Prs E T C) : ∀ (n : Nat), n ≤ 60 → ∀ (e s : Nat), 0 ≤ cst E T C e n s ∧ (1 ≤ e → cst E T C e n s ≤ 62000 * n) := by
  intro n
  induction n using Nat.strongRecOn with
  | _ n ih =>
    intro hn e s
    obtain ⟨e0, e1, t0, t1, c0, c1⟩ := p
    by_cases hz : n = 0
    · subst hz; rw [cst_zero]; omega
    by_cases hez : e = 0
    · subst hez
      obtain ⟨m, rfl⟩ : ∃ m, n = m + 1 := ⟨n - 1, by omega⟩
      rw [cst_no_egg]; omega
    rw [cst_eq _ _ _ _ _ _ (by omega) (by omega)]
    refine ⟨?_, fun _ => ?_⟩
    · apply minF_ge _ _ _ _ (by omega)
      intro f h1 h2
      have hw := way_range n s f h1 h2
      have hm := mulC c0 c1 (by omega : 0 ≤ wayI n s f) (by omega)
      have := (ih (f - 1) (by omega) (by omega) (e - 1) 1).1
      unfold firstG
      omega
    · have h1 := minF_le 1125899906842624 (firstG E T C e n s) n 1 (by omega) (by omega)
      have hw := way_range n s 1 (by omega) (by omega)
      have hm := mulC c0 c1 (by omega : 0 ≤ wayI n s 1) (by omega)
      have h2 := (ih (n - 1) (by omega) (by omega) e 0).2 (by omega)
      have h3 : firstG E T C e n s 1 ≤ 62000 * n := by
        unfold firstG
        rw [show 1 - 1 = 0 from rfl, cst_zero]
        omega
      omega
theorem firstG_small {E T C : Int} (p : Prs E T C) (e n s f : Nat) (hn : n ≤ 60) (h1 : 1 ≤ f) (h2 : f ≤ n) (he : 2 ≤ e ∨ (1 ≤ e ∧ f = 1)) : 0 ≤ firstG E T C e n s f ∧ firstG E T C e n s f ≤ 4000000 := by
  have q := p
  obtain ⟨e0, e1, t0, t1, c0, c1⟩ := p
  have hw := way_range n s f h1 h2
  have hm := mulC c0 c1 (by omega : 0 ≤ wayI n s f) (by omega)
  have a1 := cst_range q (n - f) (by omega) e 0
  have a2 := a1.2 (by omega)
  unfold firstG
  rcases he with he | ⟨he, hf⟩
  · have b1 := cst_range q (f - 1) (by omega) (e - 1) 1
    have b2 := b1.2 (by omega)
    omega
  · subst hf
    rw [show 1 - 1 = 0 from rfl, cst_zero]
    omega
theorem firstG_big {E T C : Int} (p : Prs E T C) (n s f : Nat) (hn : n ≤ 60) (h1 : 2 ≤ f) (h2 : f ≤ n) : 1125899906842624 ≤ firstG E T C 1 n s f := by
  obtain ⟨e0, e1, t0, t1, c0, c1⟩ := p
  have hw := way_range n s f (by omega) h2
  have hm := mulC c0 c1 (by omega : 0 ≤ wayI n s f) (by omega)
  unfold firstG
  obtain ⟨m, hm'⟩ : ∃ m, f - 1 = m + 1 := ⟨f - 2, by omega⟩
  rw [show 1 - 1 = 0 from rfl, hm', cst_no_egg]
  omega
theorem firstG_range {E T C : Int} (p : Prs E T C) (e n s f : Nat) (hn : n ≤ 60) (he : 1 ≤ e) (h1 : 1 ≤ f) (h2 : f ≤ n) : 0 ≤ firstG E T C e n s f ∧ firstG E T C e n s f ≤ 1125899907000000 := by
  by_cases h : 2 ≤ e ∨ (1 ≤ e ∧ f = 1)
  · have := firstG_small p e n s f hn h1 h2 h; omega
  · obtain rfl : e = 1 := by omega
    have h0 := firstG_big p n s f hn (by omega) h2
    refine ⟨by omega, ?_⟩
    obtain ⟨e0, e1, t0, t1, c0, c1⟩ := p
    have hw := way_range n s f h1 h2
    have hm := mulC c0 c1 (by omega : 0 ≤ wayI n s f) (by omega)
    have a1 := (cst_range ⟨e0, e1, t0, t1, c0, c1⟩ (n - f) (by omega) 1 0).2 (by omega)
    unfold firstG
    obtain ⟨m, hm'⟩ : ∃ m, f - 1 = m + 1 := ⟨f - 2, by omega⟩
    rw [show 1 - 1 = 0 from rfl, hm', cst_no_egg]
    omega
/-- The reference's running least, of the floors that can be settled: -1 ahead of the first one. -/
def bestL (E T C : Int) (e n s : Nat) : Nat → Int
  | 0 => -1
  | f + 1 => if 2 ≤ e ∨ f = 0 then (if bestL E T C e n s f < 0 ∨ firstG E T C e n s (f + 1) < bestL E T C e n s f then firstG E T C e n s (f + 1) else bestL E T C e n s f) else bestL E T C e n s f
theorem bestL_is {E T C : Int} (p : Prs E T C) (e n s : Nat) (hn : n ≤ 60) (he : 1 ≤ e) : ∀ f, 1 ≤ f → f ≤ n → bestL E T C e n s f = minF 1125899906842624 f (firstG E T C e n s) := by
  intro f
  induction f with
  | zero => omega
  | succ f ih =>
    intro h1 h2
    by_cases hf : f = 0
    · subst hf
      have := firstG_small p e n s 1 hn (by omega) h2 (by omega)
      have hb : bestL E T C e n s (0 + 1) = firstG E T C e n s (0 + 1) := by simp [bestL]
      rw [hb]
      simp only [minF]
      simp only [Nat.zero_add] at *
      omega
    · have h3 := ih (by omega) (by omega)
      have h4 : 0 ≤ minF 1125899906842624 f (firstG E T C e n s) := minF_ge _ _ _ _ (by omega) (fun g a b => (firstG_range p e n s g hn he a (by omega)).1)
      rw [bestL, minF, h3]
      by_cases h : 2 ≤ e
      · rw [if_pos (Or.inl h)]
        by_cases c : firstG E T C e n s (f + 1) < minF 1125899906842624 f (firstG E T C e n s)
        · rw [if_pos (Or.inr c)]; omega
        · rw [if_neg (by omega)]; omega
      · rw [if_neg (by omega)]
        obtain rfl : e = 1 := by omega
        have b1 := firstG_big p n s (f + 1) hn (by omega) h2
        have b2 := minF_le_nv 1125899906842624 (firstG E T C 1 n s) f
        omega
theorem bestL_cst {E T C : Int} (p : Prs E T C) (e n s : Nat) (hn : n ≤ 60) (he : 1 ≤ e) (h1 : 1 ≤ n) : bestL E T C e n s n = cst E T C e n s := by
  rw [bestL_is p e n s hn he n h1 (Nat.le_refl _), cst_eq _ _ _ _ _ _ he h1]

end Go.Proofs.YtkbmefmnfoalhaaLib
