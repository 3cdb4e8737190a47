/- Plain laws on numbers and lists (Rounds), without any program. Conditions: those of each lemma. -/
set_option linter.unusedVariables false
set_option linter.unusedSimpArgs false
namespace Go.Proofs.YtbiibhfcclfoiaaLib
/-- R e + R (e - 1) + .., m of them. -/
def sumR (R : Nat → Int) (e : Nat) : Nat → Int
  | 0 => 0
  | m + 1 => sumR R e m + R (e - m)
/-- How many floors a round with so many floors of its own covers, the lowest part not being told. -/
def covR (R : Nat → Int) (e own : Nat) : Int := own + sumR R e (own + 1)
/-- How far rounds reach. -/
def rr (h : Nat) : Nat → Nat → Int
  | 0 => fun _ => 0
  | t + 1 => fun e => if e = 0 then 0 else min 1000000000 (covR (rr h t) e (min h e))
theorem rr_succ (h t e : Nat) (he : 1 ≤ e) : rr h (t + 1) e = min 1000000000 (covR (rr h t) e (min h e)) := by
  show (if e = 0 then 0 else min 1000000000 (covR (rr h t) e (min h e))) = _
  rw [if_neg (by omega)]
theorem rr_no_egg (h : Nat) : ∀ t, rr h t 0 = 0
  | 0 => rfl
  | _ + 1 => rfl
theorem rr_zero (h e : Nat) : rr h 0 e = 0 := rfl
theorem sumR_range (R : Nat → Int) (hR : ∀ e, 0 ≤ R e ∧ R e ≤ 1000000000) (e : Nat) : ∀ m, 0 ≤ sumR R e m ∧ sumR R e m ≤ 1000000000 * m
  | 0 => by simp [sumR]
  | m + 1 => by
    have h1 := sumR_range R hR e m
    have h2 := hR (e - m)
    rw [sumR]
    omega
theorem rr_range (h : Nat) : ∀ t e, 0 ≤ rr h t e ∧ rr h t e ≤ 1000000000
  | 0, _ => by rw [rr_zero]; omega
  | t + 1, e => by
    by_cases he : e = 0
    · subst he; rw [rr_no_egg]; omega
    · rw [rr_succ h t e (by omega)]
      have := sumR_range (rr h t) (rr_range h t) e (min h e + 1)
      unfold covR
      omega
theorem sumR_le (R R' : Nat → Int) (h : ∀ e, R e ≤ R' e) (e : Nat) : ∀ m, sumR R e m ≤ sumR R' e m
  | 0 => Int.le_refl _
  | m + 1 => by
    have h1 := sumR_le R R' h e m
    have h2 := h (e - m)
    rw [sumR, sumR]; omega
theorem sumR_first (R : Nat → Int) (hR : ∀ e, 0 ≤ R e) (e : Nat) : ∀ m, R e ≤ sumR R e (m + 1)
  | 0 => by simp [sumR]
  | m + 1 => by
    have h1 := sumR_first R hR e m
    have h2 := hR (e - (m + 1))
    rw [sumR]; omega
theorem rr_mono1 (h t e : Nat) : rr h t e ≤ rr h (t + 1) e := by
  by_cases he : e = 0
  · subst he; rw [rr_no_egg, rr_no_egg]; omega
  · rw [rr_succ h t e (by omega)]
    have h1 := sumR_first (rr h t) (fun e => (rr_range h t e).1) e (min h e)
    have h2 := (rr_range h t e).2
    unfold covR
    omega
theorem rr_mono (h : Nat) {t t' : Nat} (e : Nat) (ht : t ≤ t') : rr h t e ≤ rr h t' e := by
  induction ht with
  | refl => exact Int.le_refl _
  | step _ ih => exact Int.le_trans ih (rr_mono1 _ _ _)
theorem rr_lin (h : Nat) (hh : 1 ≤ h) : ∀ (t e : Nat), 1 ≤ e → t ≤ 1000000000 → (t : Int) ≤ rr h t e
  | 0, e, _, _ => by rw [rr_zero]; omega
  | t + 1, e, he, ht => by
    rw [rr_succ h t e he]
    have h1 := rr_lin h hh t e he (by omega)
    have h2 := sumR_first (rr h t) (fun e => (rr_range h t e).1) e (min h e)
    unfold covR
    omega
/-- The fewest rounds, 1000 where even these are too few. -/
def fewR (h e : Nat) (n : Int) : Nat := ((List.range 1000).find? (fun t => decide (n ≤ rr h t e))).getD 1000
theorem fewR_le_iff (h e : Nat) (n : Int) (m : Nat) (hm : m < 1000) : fewR h e n ≤ m ↔ n ≤ rr h m e := by
  unfold fewR
  cases hf : (List.range 1000).find? (fun t => decide (n ≤ rr h t e)) with
  | none =>
    rw [List.find?_eq_none] at hf
    have := hf m (List.mem_range.2 hm)
    simp at this ⊢
    omega
  | some t =>
    have h1 := List.find?_some hf
    simp only [decide_eq_true_eq] at h1
    simp only [Option.getD_some]
    constructor
    · intro h; exact Int.le_trans h1 (rr_mono _ e h)
    · intro h
      apply Nat.le_of_not_lt
      intro hlt
      rw [List.find?_range_eq_some] at hf
      have := hf.2.2 m hlt
      simp at this
      omega
theorem fewR_le (h e : Nat) (n : Int) : fewR h e n ≤ 1000 := by
  unfold fewR
  cases hf : (List.range 1000).find? (fun t => decide (n ≤ rr h t e)) with
  | none => simp
  | some t =>
    have := List.mem_range.1 (List.mem_of_find?_eq_some hf)
    simp; omega
theorem fewR_reach (h e : Nat) (n : Int) (hh : 1 ≤ h) (he : 1 ≤ e) (hn : n ≤ 1000) : n ≤ rr h (fewR h e n) e := by
  by_cases hf : fewR h e n < 1000
  · exact (fewR_le_iff h e n _ hf).1 (Nat.le_refl _)
  · have := fewR_le h e n
    have e1 : fewR h e n = 1000 := by omega
    rw [e1]
    have := rr_lin h hh 1000 e he (by omega)
    omega
theorem fewR_pos (h e : Nat) (n : Int) (hn : 1 ≤ n) : 1 ≤ fewR h e n := by
  apply Nat.le_of_not_lt
  intro hlt
  have h0 : fewR h e n ≤ 0 := by omega
  rw [fewR_le_iff h e n 0 (by omega), rr_zero] at h0
  omega
/-- The first floors of a round, so many that l + 1 are still to come. -/
def fOf (R : Nat → Int) (e : Nat) (n : Int) : Nat → List Int → Int → Option (List Int)
  | 0, out, _ => some out
  | l + 1, out, last => if max (last + 1) (n - covR R e l) > n ∨ max (last + 1) (n - covR R e l) - last - 1 > R (e - l - 1) then none else fOf R e n l (out ++ [max (last + 1) (n - covR R e l)]) (max (last + 1) (n - covR R e l))
theorem fOf_step (R : Nat → Int) (e : Nat) (n : Int) (l : Nat) (out : List Int) (last : Int) : fOf R e n (l + 1) out last = if max (last + 1) (n - covR R e l) > n ∨ max (last + 1) (n - covR R e l) - last - 1 > R (e - l - 1) then none else fOf R e n l (out ++ [max (last + 1) (n - covR R e l)]) (max (last + 1) (n - covR R e l)) := rfl
/-- Does a list come before another one? -/
def lexLt : List Int → List Int → Bool
  | [], [] => false
  | [], _ :: _ => true
  | _ :: _, [] => false
  | x :: r, y :: s => if x = y then lexLt r s else decide (x < y)
/-- The best one of the first floors, from m of them on. -/
def firR (R : Nat → Int) (e : Nat) (n : Int) : Nat → Nat → List Int → List Int
  | 0, _, best => best
  | d + 1, m, best => match fOf R e n m [] 0 with
    | some l => if best = [] ∨ lexLt l best = true then firR R e n d (m + 1) l else firR R e n d (m + 1) best
    | none => firR R e n d (m + 1) best
theorem firR_some (R : Nat → Int) (e : Nat) (n : Int) (d m : Nat) (best l : List Int) (h : fOf R e n m [] 0 = some l) : firR R e n (d + 1) m best = if best = [] ∨ lexLt l best = true then firR R e n d (m + 1) l else firR R e n d (m + 1) best := by
  rw [firR, h]
theorem firR_none (R : Nat → Int) (e : Nat) (n : Int) (d m : Nat) (best : List Int) (h : fOf R e n m [] 0 = none) : firR R e n (d + 1) m best = firR R e n d (m + 1) best := by
  rw [firR, h]
/-- The floors of the first round of a plan with the fewest rounds. -/
def firstR (h e : Nat) (n : Int) : List Int := if n = 0 then [] else firR (rr h (fewR h e n - 1)) e n (min h e) 1 []
theorem fOf_len (R : Nat → Int) (e : Nat) (n : Int) : ∀ (l : Nat) (out : List Int) (last : Int) (r : List Int), fOf R e n l out last = some r → r.length = out.length + l
  | 0, out, _, r, h => by
    obtain rfl := Option.some.inj h; rfl
  | l + 1, out, last, r, h => by
    rw [fOf_step] at h
    split at h
    · cases h
    · have := fOf_len R e n l _ _ r h
      simp at this; omega
theorem fewR_eq (h e : Nat) (n : Int) (t : Nat) (ht : t ≤ 1000) (hb : ∀ s, s < t → ¬ n ≤ rr h s e) (hn : t < 1000 → n ≤ rr h t e) : fewR h e n = t := by
  have h1 : t ≤ fewR h e n := by
    apply Nat.le_of_not_lt
    intro hlt
    exact hb _ hlt ((fewR_le_iff h e n _ (by omega)).1 (Nat.le_refl _))
  by_cases hq : t < 1000
  · have := (fewR_le_iff h e n t hq).2 (hn hq)
    omega
  · have := fewR_le h e n
    omega
/-- A round's floors: rising, at most n, with few floors between them; so many are still to come behind last. -/
def ChainR (R : Nat → Int) (e : Nat) (n : Int) : Nat → Int → List Int → Prop
  | 0, last, [] => n - last ≤ R e
  | q + 1, last, f :: r => last < f ∧ f ≤ n ∧ f - last - 1 ≤ R (e - q - 1) ∧ ChainR R e n q f r
  | 0, _, _ :: _ => False
  | _ + 1, _, [] => False
theorem fOf_chain (R : Nat → Int) (e : Nat) (n : Int) : ∀ (l : Nat) (out : List Int) (last : Int) (r : List Int), fOf R e n l out last = some r → (l = 0 → n - last ≤ R e) → ∃ tail, r = out ++ tail ∧ ChainR R e n l last tail
  | 0, out, last, r, h, h0 => by
    obtain rfl := Option.some.inj h
    exact ⟨[], by simp, h0 rfl⟩
  | l + 1, out, last, r, h, _ => by
    rw [fOf_step] at h
    split at h
    · cases h
    · rename_i hc
      rw [not_or] at hc
      have hf : max (last + 1) (n - covR R e l) ≥ n - covR R e l := by omega
      have hf2 : max (last + 1) (n - covR R e l) ≥ last + 1 := by omega
      generalize max (last + 1) (n - covR R e l) = f at h hc hf hf2
      obtain ⟨tail, h1, h2⟩ := fOf_chain R e n l (out ++ [f]) f r h (fun hl => by
        subst hl
        have : covR R e 0 = R e := by simp [covR, sumR]
        omega)
      exact ⟨f :: tail, by rw [h1]; simp, by omega, by omega, by omega, h2⟩
theorem fOf_ok (R : Nat → Int) (hR : ∀ e, 0 ≤ R e) (e : Nat) (n : Int) : ∀ (l : Nat) (out : List Int) (last : Int), last ≤ n - l → n - last ≤ covR R e l → ∃ r, fOf R e n l out last = some r
  | 0, out, _, _, _ => ⟨out, rfl⟩
  | l + 1, out, last, h1, h2 => by
    have hcs : covR R e (l + 1) = covR R e l + 1 + R (e - (l + 1)) := by
      unfold covR
      rw [sumR]
      omega
    have h3 := hR (e - (l + 1))
    rw [show e - (l + 1) = e - l - 1 by omega] at hcs h3
    have h4 : (l : Int) ≤ covR R e l := by
      have : ∀ m, 0 ≤ sumR R e m := by
        intro m
        induction m with
        | zero => simp [sumR]
        | succ m ih => rw [sumR]; have := hR (e - m); omega
      have := this (l + 1)
      unfold covR; omega
    rw [fOf_step, if_neg (by omega)]
    exact fOf_ok R hR e n l _ _ (by omega) (by omega)
theorem firR_is (R : Nat → Int) (e : Nat) (n : Int) (P : List Int → Prop) (hP : ∀ m l, fOf R e n m [] 0 = some l → P l) : ∀ (d m : Nat) (best : List Int), P best → P (firR R e n d m best)
  | 0, _, _, h => h
  | d + 1, m, best, h => by
    cases hf : fOf R e n m [] 0 with
    | none => rw [firR_none _ _ _ _ _ _ hf]; exact firR_is R e n P hP d (m + 1) best h
    | some l =>
      rw [firR_some _ _ _ _ _ _ _ hf]
      split
      · exact firR_is R e n P hP d (m + 1) l (hP m l hf)
      · exact firR_is R e n P hP d (m + 1) best h
theorem firR_ne (R : Nat → Int) (e : Nat) (n : Int) : ∀ (d m : Nat) (best : List Int), 1 ≤ m → (best ≠ [] ∨ ∃ q, m ≤ q ∧ q < m + d ∧ ∃ l, fOf R e n q [] 0 = some l) → firR R e n d m best ≠ []
  | 0, m, best, _, h => by
    rcases h with h | ⟨q, h1, h2, _⟩
    · exact h
    · omega
  | d + 1, m, best, hm, h => by
    cases hf : fOf R e n m [] 0 with
    | none =>
      rw [firR_none _ _ _ _ _ _ hf]
      refine firR_ne R e n d (m + 1) best (by omega) ?_
      rcases h with h | ⟨q, h1, h2, l, h3⟩
      · exact Or.inl h
      · right
        refine ⟨q, ?_, by omega, l, h3⟩
        rcases (by omega : q = m ∨ m < q) with rfl | hq
        · rw [hf] at h3; cases h3
        · omega
    | some l =>
      have hl : l ≠ [] := by
        have := fOf_len R e n m [] 0 l hf
        intro h0
        subst h0
        simp at this
        omega
      rw [firR_some _ _ _ _ _ _ _ hf]
      split
      · exact firR_ne R e n d (m + 1) l (by omega) (Or.inl hl)
      · rename_i hc
        rw [not_or] at hc
        exact firR_ne R e n d (m + 1) best (by omega) (Or.inl hc.1)
/-- The floors of a first round are as they ought to be. -/
theorem firstR_is (h e : Nat) (n : Int) (hh : 1 ≤ h) (he : 1 ≤ e) (hn : 1 ≤ n) (hn2 : n ≤ 1000) : firstR h e n ≠ [] ∧ ∃ m, ChainR (rr h (fewR h e n - 1)) e n m 0 (firstR h e n) := by
  unfold firstR
  rw [if_neg (by omega)]
  obtain ⟨t, ht⟩ : ∃ t, fewR h e n = t + 1 := ⟨fewR h e n - 1, by have := fewR_pos h e n hn; omega⟩
  have hre := fewR_reach h e n hh he hn2
  rw [ht] at hre ⊢
  rw [Nat.add_sub_cancel]
  rw [rr_succ h t e he] at hre
  have hne : firR (rr h t) e n (min h e) 1 [] ≠ [] := by
    refine firR_ne _ _ _ _ _ _ (by omega) (Or.inr ⟨min (min h e) n.toNat, by omega, by omega, ?_⟩)
    refine fOf_ok _ (fun e => (rr_range h t e).1) e n _ [] 0 (by omega) ?_
    by_cases hq : min h e ≤ n.toNat
    · rw [show min (min h e) n.toNat = min h e by omega]; omega
    · have h4 : ∀ m, 0 ≤ sumR (rr h t) e m := fun m => (sumR_range (rr h t) (rr_range h t) e m).1
      have := h4 (min (min h e) n.toNat + 1)
      unfold covR
      omega
  refine ⟨hne, ?_⟩
  have hq := firR_is (rr h t) e n (fun l => l = [] ∨ ∃ m, ChainR (rr h t) e n m 0 l) (fun m l hf => by
    by_cases hm : m = 0
    · subst hm
      have h0 : l = [] := (Option.some.inj hf).symm
      exact Or.inl h0
    · obtain ⟨tail, h1, h2⟩ := fOf_chain (rr h t) e n m [] 0 l hf (fun h => absurd h hm)
      rw [List.nil_append] at h1
      exact Or.inr ⟨m, h1 ▸ h2⟩) (min h e) 1 [] (Or.inl rfl)
  rcases hq with hq | hq
  · exact absurd hq hne
  · exact hq
/-- How many floors are above a break. -/
def cntA (b : Int) : List Int → Nat
  | [] => 0
  | f :: r => if f > b then cntA b r + 1 else cntA b r
theorem cntA_le (b : Int) : ∀ l, cntA b l ≤ l.length
  | [] => Nat.le_refl _
  | f :: r => by
    have := cntA_le b r
    rw [cntA]
    split
    · simp; omega
    · simp; omega
/-- The least and the greatest break behind a round. -/
def loOf (b : Int) : Int → List Int → Int
  | last, [] => last
  | last, f :: r => if f > b then last else loOf b f r
def hiOf (b : Int) (n : Int) : List Int → Int
  | [] => n
  | f :: r => if f > b then f - 1 else hiOf b n r
def RiseR : Int → List Int → Prop
  | _, [] => True
  | last, f :: r => last < f ∧ RiseR f r
theorem RiseR.mem : ∀ (l : List Int) (last : Int), RiseR last l → ∀ x ∈ l, last < x
  | [], _, _, x, hx => by simp at hx
  | f :: r, last, h, x, hx => by
    rcases List.mem_cons.1 hx with rfl | hx
    · exact h.1
    · have h1 := RiseR.mem r f h.2 x hx
      have h2 := h.1
      omega
theorem cntA_all (b : Int) : ∀ l : List Int, (∀ x ∈ l, b < x) → cntA b l = l.length
  | [], _ => rfl
  | f :: r, h => by
    rw [cntA, if_pos (h f List.mem_cons_self), cntA_all b r (fun x hx => h x (List.mem_cons_of_mem _ hx))]
    rfl
theorem ChainR.rise (R : Nat → Int) (e : Nat) (n : Int) : ∀ (q : Nat) (last : Int) (l : List Int), ChainR R e n q last l → RiseR last l ∧ l.length = q ∧ ∀ x ∈ l, x ≤ n
  | 0, _, [], _ => ⟨trivial, rfl, by simp⟩
  | q + 1, last, f :: r, h => by
    obtain ⟨h1, h2, _, h4⟩ := h
    obtain ⟨i1, i2, i3⟩ := ChainR.rise R e n q f r h4
    refine ⟨⟨h1, i1⟩, by simp [i2], fun x hx => ?_⟩
    rcases List.mem_cons.1 hx with rfl | hx
    · exact h2
    · exact i3 x hx
  | 0, _, _ :: _, h => h.elim
  | _ + 1, _, [], h => h.elim
/-- Behind a round what is left open can be told with the eggs that are left. -/
theorem ChainR.next (R : Nat → Int) (e : Nat) (n b : Int) : ∀ (q : Nat) (last : Int) (l : List Int), ChainR R e n q last l → last ≤ b → b ≤ n →
    loOf b last l ≤ b ∧ b ≤ hiOf b n l ∧ hiOf b n l - loOf b last l ≤ R (e - cntA b l) ∧ last ≤ loOf b last l ∧ hiOf b n l ≤ n ∧ cntA b l ≤ q
  | 0, last, [], h, h1, h2 => by
    refine ⟨h1, h2, h, Int.le_refl _, Int.le_refl _, Nat.le_refl _⟩
  | q + 1, last, f :: r, h, h1, h2 => by
    obtain ⟨c1, c2, c3, c4⟩ := h
    by_cases hf : f > b
    · have hr := ChainR.rise R e n q f r c4
      have hall : ∀ x ∈ r, b < x := fun x hx => by have := RiseR.mem r f hr.1 x hx; omega
      have hc := cntA_all b r hall
      rw [loOf, hiOf, cntA, if_pos hf, if_pos hf, if_pos hf, hc, hr.2.1]
      rw [show e - (q + 1) = e - q - 1 by omega]
      exact ⟨h1, by omega, by omega, Int.le_refl _, by omega, Nat.le_refl _⟩
    · rw [loOf, hiOf, cntA, if_neg hf, if_neg hf, if_neg hf]
      obtain ⟨i1, i2, i3, i4, i5, i6⟩ := ChainR.next R e n b q f r c4 (by omega) h2
      exact ⟨i1, i2, i3, by omega, i5, by omega⟩
  | 0, _, _ :: _, h, _, _ => h.elim
  | _ + 1, _, [], h, _, _ => h.elim
/-- The same by the places of the floors. -/
theorem loOf_at (b : Int) : ∀ (l : List Int) (last : Int), RiseR last l → (cntA b l < l.length → loOf b last l = l.getD (l.length - cntA b l - 1) 0) ∧ (cntA b l = l.length → loOf b last l = last)
  | [], last, _ => ⟨fun h => by simp [cntA] at h, fun _ => rfl⟩
  | f :: r, last, h => by
    by_cases hf : f > b
    · have hall : ∀ x ∈ r, b < x := fun x hx => by have := RiseR.mem r f h.2 x hx; omega
      have hc := cntA_all b r hall
      rw [loOf, cntA, if_pos hf, if_pos hf, hc]
      exact ⟨fun h => by simp at h, fun _ => rfl⟩
    · rw [loOf, cntA, if_neg hf, if_neg hf]
      obtain ⟨i1, i2⟩ := loOf_at b r f h.2
      have hle := cntA_le b r
      refine ⟨fun hlt => ?_, fun he => ?_⟩
      · by_cases hq : cntA b r < r.length
        · rw [i1 hq, List.length_cons, show r.length + 1 - cntA b r - 1 = (r.length - cntA b r - 1) + 1 by omega, List.getD_cons_succ]
        · rw [i2 (by omega), List.length_cons, show r.length + 1 - cntA b r - 1 = 0 by omega, List.getD_cons_zero]
      · rw [List.length_cons] at he; omega
theorem hiOf_at (b n : Int) : ∀ (l : List Int) (last : Int), RiseR last l → (0 < cntA b l → hiOf b n l = l.getD (l.length - cntA b l) 0 - 1) ∧ (cntA b l = 0 → hiOf b n l = n)
  | [], last, _ => ⟨fun h => by simp [cntA] at h, fun _ => rfl⟩
  | f :: r, last, h => by
    by_cases hf : f > b
    · have hall : ∀ x ∈ r, b < x := fun x hx => by have := RiseR.mem r f h.2 x hx; omega
      have hc := cntA_all b r hall
      rw [hiOf, cntA, if_pos hf, if_pos hf, hc]
      refine ⟨fun _ => ?_, fun h => by omega⟩
      rw [List.length_cons, show r.length + 1 - (r.length + 1) = 0 by omega, List.getD_cons_zero]
    · rw [hiOf, cntA, if_neg hf, if_neg hf]
      obtain ⟨i1, i2⟩ := hiOf_at b n r f h.2
      have hle := cntA_le b r
      refine ⟨fun hlt => ?_, i2⟩
      rw [i1 hlt, List.length_cons, show r.length + 1 - cntA b r = (r.length - cntA b r) + 1 by omega, List.getD_cons_succ]
/-- Floors told from another one on. -/
def shiftR (by_ : Int) (l : List Int) : List Int := l.map (fun x => x + by_)
theorem shiftR_len (d : Int) (l : List Int) : (shiftR d l).length = l.length := by simp [shiftR]
theorem cntA_shift (b d : Int) : ∀ l, cntA b (shiftR d l) = cntA (b - d) l
  | [] => rfl
  | f :: r => by
    have ih := cntA_shift b d r
    show cntA b ((f + d) :: shiftR d r) = _
    rw [cntA, cntA, ih]
    by_cases h : f + d > b
    · rw [if_pos h, if_pos (by omega)]
    · rw [if_neg h, if_neg (by omega)]
theorem loOf_shift (b d : Int) : ∀ (l : List Int) (last : Int), loOf b (last + d) (shiftR d l) = loOf (b - d) last l + d
  | [], _ => rfl
  | f :: r, last => by
    have ih := loOf_shift b d r f
    show loOf b (last + d) ((f + d) :: shiftR d r) = _
    rw [loOf, loOf, ih]
    by_cases h : f + d > b
    · rw [if_pos h, if_pos (by omega)]
    · rw [if_neg h, if_neg (by omega)]
theorem hiOf_shift (b n d : Int) : ∀ (l : List Int), hiOf b (n + d) (shiftR d l) = hiOf (b - d) n l + d
  | [] => rfl
  | f :: r => by
    have ih := hiOf_shift b n d r
    show hiOf b (n + d) ((f + d) :: shiftR d r) = _
    rw [hiOf, hiOf, ih]
    by_cases h : f + d > b
    · rw [if_pos h, if_pos (by omega)]; omega
    · rw [if_neg h, if_neg (by omega)]
theorem RiseR.shift (d : Int) : ∀ (l : List Int) (last : Int), RiseR last l → RiseR (last + d) (shiftR d l)
  | [], _, _ => trivial
  | f :: r, last, h => ⟨by (show last + d < f + d); have := h.1; omega, RiseR.shift d r f h.2⟩
/-- The round that is played while the breaks from low to high are open. -/
def roundR (h e : Nat) (low high : Int) : List Int := shiftR low (firstR h e (high - low))
/-- The rounds of a play. -/
def playR (h : Nat) (b : Int) : Nat → Nat → Int → Int → List (List Int)
  | 0, _, _, _ => []
  | k + 1, e, low, high => if low < high then roundR h e low high :: playR h b k (e - cntA b (roundR h e low high)) (loOf b low (roundR h e low high)) (hiOf b high (roundR h e low high)) else []
theorem playR_step (h : Nat) (b : Int) (k e : Nat) (low high : Int) (hl : low < high) : playR h b (k + 1) e low high = roundR h e low high :: playR h b k (e - cntA b (roundR h e low high)) (loOf b low (roundR h e low high)) (hiOf b high (roundR h e low high)) := by
  rw [playR, if_pos hl]
theorem playR_end (h : Nat) (b : Int) (k e : Nat) (low high : Int) (hl : ¬ low < high) : playR h b k e low high = [] := by
  cases k with
  | zero => rfl
  | succ k => rw [playR, if_neg hl]
theorem playR_len (h : Nat) (b : Int) : ∀ (k e : Nat) (low high : Int), (playR h b k e low high).length ≤ k
  | 0, _, _, _ => Nat.le_refl _
  | k + 1, e, low, high => by
    rw [playR]
    split
    · have := playR_len h b k (e - cntA b (roundR h e low high)) (loOf b low (roundR h e low high)) (hiOf b high (roundR h e low high))
      simp; omega
    · simp
/-- What holds at each round of a play. -/
structure PlayAt (h : Nat) (b : Int) (k e : Nat) (low high : Int) : Prop where
  h1 : 1 ≤ h
  h2 : h ≤ 10
  e2 : e ≤ 10
  l0 : 0 ≤ low
  lb : low ≤ b
  bh : b ≤ high
  hi : high ≤ 1000
  rk : high - low ≤ rr h k e
  k2 : k ≤ 1000
theorem PlayAt.egg {h : Nat} {b : Int} {k e : Nat} {low high : Int} (p : PlayAt h b k e low high) (hl : low < high) : 1 ≤ e := by
  apply Nat.pos_of_ne_zero
  intro he
  subst he
  have := p.rk
  rw [rr_no_egg] at this
  omega
theorem PlayAt.round {h : Nat} {b : Int} {k e : Nat} {low high : Int} (p : PlayAt h b k e low high) (hl : low < high) :
    RiseR low (roundR h e low high) ∧ roundR h e low high ≠ [] ∧ (roundR h e low high).length ≤ 1000 ∧ (∀ x ∈ roundR h e low high, low < x ∧ x ≤ high) ∧ cntA b (roundR h e low high) ≤ (roundR h e low high).length ∧ 1 ≤ k ∧
      PlayAt h b (k - 1) (e - cntA b (roundR h e low high)) (loOf b low (roundR h e low high)) (hiOf b high (roundR h e low high)) := by
  have he := p.egg hl
  obtain ⟨hne, m, hc⟩ := firstR_is h e (high - low) p.h1 he (by omega) (by have := p.hi; have := p.l0; omega)
  obtain ⟨r1, r2, r3⟩ := ChainR.rise _ _ _ _ _ _ hc
  obtain ⟨n1, n2, n3, n4, n5, n6⟩ := ChainR.next _ _ _ (b - low) _ _ _ hc (by have := p.lb; omega) (by have := p.bh; omega)
  have hk : 1 ≤ k := by
    apply Nat.pos_of_ne_zero
    intro hk
    subst hk
    have := p.rk
    rw [rr_zero] at this
    omega
  have hfew : fewR h e (high - low) ≤ k := by
    by_cases hk1 : k < 1000
    · exact (fewR_le_iff _ _ _ _ hk1).2 p.rk
    · have := fewR_le h e (high - low)
      have := p.k2
      omega
  have e1 : cntA b (roundR h e low high) = cntA (b - low) (firstR h e (high - low)) := cntA_shift _ _ _
  have e2 : loOf b low (roundR h e low high) = loOf (b - low) 0 (firstR h e (high - low)) + low := by
    have := loOf_shift b low (firstR h e (high - low)) 0
    rw [Int.zero_add] at this
    exact this
  have e3 : hiOf b high (roundR h e low high) = hiOf (b - low) (high - low) (firstR h e (high - low)) + low := by
    have := hiOf_shift b (high - low) low (firstR h e (high - low))
    rw [show high - low + low = high by omega] at this
    exact this
  have e4 : (roundR h e low high).length = (firstR h e (high - low)).length := shiftR_len _ _
  have hmem : ∀ x ∈ roundR h e low high, low < x ∧ x ≤ high := by
    intro x hx
    unfold roundR shiftR at hx
    rw [List.mem_map] at hx
    obtain ⟨y, hy, rfl⟩ := hx
    have h1 := RiseR.mem _ _ r1 y hy
    have h2 := r3 y hy
    omega
  have hrise : RiseR low (roundR h e low high) := by
    have := RiseR.shift low _ _ r1
    rw [Int.zero_add] at this
    exact this
  have hlen : ∀ (l : List Int) (last : Int), RiseR last l → (∀ x ∈ l, x ≤ high) → last ≤ high → (l.length : Int) ≤ high - last := by
    intro l
    induction l with
    | nil => intro last _ _ h; simp; omega
    | cons f r ih =>
      intro last h1 h2 h3
      have := ih f h1.2 (fun x hx => h2 x (List.mem_cons_of_mem _ hx)) (h2 f List.mem_cons_self)
      have := h1.1
      simp only [List.length_cons]
      omega
  have hll := hlen _ _ hrise (fun x hx => (hmem x hx).2) (by omega)
  refine ⟨hrise, ?_, ?_, hmem, cntA_le _ _, hk, ⟨p.h1, p.h2, ?_, ?_, ?_, ?_, ?_, ?_, ?_⟩⟩
  · intro h0
    have : (roundR h e low high).length = 0 := by rw [h0]; rfl
    rw [e4] at this
    exact hne (List.length_eq_zero_iff.1 this)
  · have := p.hi; have := p.l0; omega
  · have := p.e2; omega
  · rw [e2]; have := p.l0; omega
  · rw [e2]; omega
  · rw [e3]; omega
  · rw [e3]; have := p.hi; omega
  · rw [e1, e2, e3]
    have h1 := rr_mono h (e - cntA (b - low) (firstR h e (high - low))) (show fewR h e (high - low) - 1 ≤ k - 1 by omega)
    omega
  · have := p.k2; omega
theorem PlayAt.start (h e : Nat) (n b : Int) (h1 : 1 ≤ h) (h2 : h ≤ 10) (e1 : 1 ≤ e) (e2 : e ≤ 10) (n2 : n ≤ 1000) (b0 : 0 ≤ b) (bn : b ≤ n) : PlayAt h b 1000 e 0 n :=
  ⟨h1, h2, e2, Int.le_refl _, b0, bn, n2, by have := rr_lin h h1 1000 e e1 (by omega); omega, Nat.le_refl _⟩
theorem firR_len (R : Nat → Int) (e : Nat) (n : Int) (B : Nat) : ∀ (d m : Nat) (best : List Int), best.length ≤ B → m + d ≤ B + 1 → (firR R e n d m best).length ≤ B
  | 0, _, _, h, _ => h
  | d + 1, m, best, h, hm => by
    cases hf : fOf R e n m [] 0 with
    | none => rw [firR_none _ _ _ _ _ _ hf]; exact firR_len R e n B d (m + 1) best h (by omega)
    | some l =>
      have hl := fOf_len R e n m [] 0 l hf
      simp at hl
      rw [firR_some _ _ _ _ _ _ _ hf]
      split
      · exact firR_len R e n B d (m + 1) l (by omega) (by omega)
      · exact firR_len R e n B d (m + 1) best h (by omega)
theorem roundR_len (h e : Nat) (low high : Int) : (roundR h e low high).length ≤ min h e := by
  unfold roundR firstR
  rw [shiftR_len]
  split
  · simp
  · exact firR_len _ _ _ _ _ _ _ (by simp) (by omega)
/-- A table's row as a list. -/
def rlist (h t e : Nat) : List Int := (List.range (e + 1)).map (fun q => rr h t q)
theorem rlist_len (h t e : Nat) : (rlist h t e).length = e + 1 := by simp [rlist]
theorem rlist_get (h t e i : Nat) (hi : i ≤ e) : (rlist h t e).getD i 0 = rr h t i := by
  simp [rlist, List.getD_eq_getElem?_getD, show i < e + 1 by omega]
theorem rlist_zero (h e : Nat) : List.replicate (e + 1) 0 = rlist h 0 e := by
  apply List.ext_getElem
  · simp [rlist]
  · intro i h1 h2
    simp [rlist, rr_zero]
theorem covR_succ (R : Nat → Int) (e l : Nat) : covR R e (l + 1) = covR R e l + 1 + R (e - (l + 1)) := by
  unfold covR
  rw [sumR]
  omega
theorem fOf_none (R : Nat → Int) (e : Nat) (n : Int) : ∀ (l : Nat) (out : List Int) (last : Int), 1 ≤ l → last > n - l → fOf R e n l out last = none
  | 0, _, _, h, _ => by omega
  | l + 1, out, last, _, h => by
    rw [fOf_step]
    split
    · rfl
    · rename_i hc
      rw [not_or] at hc
      have h2 : max (last + 1) (n - covR R e l) ≥ last + 1 := by omega
      generalize max (last + 1) (n - covR R e l) = f at hc h2
      by_cases hl : l = 0
      · subst hl; omega
      · exact fOf_none R e n l _ _ (by omega) (by omega)
theorem firR_stop (R : Nat → Int) (e : Nat) (n : Int) : ∀ (d m : Nat) (best : List Int), n < m → 1 ≤ m → firR R e n d m best = best
  | 0, _, _, _, _ => rfl
  | d + 1, m, best, h, h1 => by
    rw [firR_none _ _ _ _ _ _ (fOf_none R e n m [] 0 h1 (by omega))]
    exact firR_stop R e n d (m + 1) best (by omega) (by omega)
/-- The least floor that each one of a round may be, from x on. -/
def lowL (R : Nat → Int) (e : Nat) (n : Int) (m x : Nat) : List Int := (List.range (m + 1)).map (fun i => if i = m then n + 1 else if x ≤ i then max ((i : Int) + 1) (n - covR R e (m - 1 - i)) else 0)
theorem lowL_len (R : Nat → Int) (e : Nat) (n : Int) (m x : Nat) : (lowL R e n m x).length = m + 1 := by simp [lowL]
theorem lowL_get (R : Nat → Int) (e : Nat) (n : Int) (m x i : Nat) (hi : i ≤ m) : (lowL R e n m x).getD i 0 = if i = m then n + 1 else if x ≤ i then max ((i : Int) + 1) (n - covR R e (m - 1 - i)) else 0 := by
  simp [lowL, List.getD_eq_getElem?_getD, show i < m + 1 by omega]
theorem lowL_set (R : Nat → Int) (e : Nat) (n : Int) (m x : Nat) (hx : x < m) : (lowL R e n m (x + 1)).set x (max ((x : Int) + 1) (n - covR R e (m - 1 - x))) = lowL R e n m x := by
  apply List.ext_getElem
  · simp [lowL]
  · intro i h1 h2
    simp only [List.length_set, lowL_len] at h1
    rw [List.getElem_set]
    by_cases hi : x = i
    · subst hi
      simp [lowL, show x ≠ m by omega]
    · rw [if_neg hi]
      simp only [lowL, List.getElem_map, List.getElem_range]
      by_cases hm : i = m
      · rw [if_pos hm, if_pos hm]
      · rw [if_neg hm, if_neg hm]
        by_cases hq : x + 1 ≤ i
        · rw [if_pos hq, if_pos (by omega)]
        · rw [if_neg hq, if_neg (by omega)]
theorem lowL_step (R : Nat → Int) (hR : ∀ e, 0 ≤ R e) (e : Nat) (n : Int) (m x : Nat) (hx : x < m) :
    max ((x : Int) + 1) ((lowL R e n m (x + 1)).getD (x + 1) 0 - 1 - R (e - (m - 1 - x))) = max ((x : Int) + 1) (n - covR R e (m - 1 - x)) := by
  rw [lowL_get _ _ _ _ _ _ (by omega)]
  by_cases hm : x + 1 = m
  · rw [if_pos hm, show m - 1 - x = 0 by omega]
    have : covR R e 0 = R e := by simp [covR, sumR]
    rw [this, Nat.sub_zero]
    omega
  · rw [if_neg hm, if_pos (Nat.le_refl _)]
    obtain ⟨l, hl⟩ : ∃ l, m - 1 - x = l + 1 := ⟨m - 2 - x, by omega⟩
    rw [hl, show m - 1 - (x + 1) = l by omega, covR_succ]
    have := hR (e - (l + 1))
    omega
/-- The sum of the eggs that break. -/
def totA (b : Int) : List (List Int) → Nat
  | [] => 0
  | r :: s => cntA b r + totA b s
theorem totA_append (b : Int) : ∀ x y, totA b (x ++ y) = totA b x + totA b y
  | [], y => by simp [totA]
  | r :: s, y => by rw [List.cons_append, totA, totA, totA_append b s y]; omega
theorem cntA_append (b : Int) : ∀ x y, cntA b (x ++ y) = cntA b x + cntA b y
  | [], y => by simp [cntA]
  | f :: r, y => by
    rw [List.cons_append, cntA, cntA, cntA_append b r y]
    split <;> omega
theorem RiseR.prefix_ : ∀ (x y : List Int) (last : Int), RiseR last (x ++ y) → RiseR last x
  | [], _, _, _ => trivial
  | f :: r, y, last, h => ⟨h.1, RiseR.prefix_ r y f h.2⟩
theorem RiseR.last_lt : ∀ (x : List Int) (f last : Int), RiseR last (x ++ [f]) → last < f ∧ ∀ y ∈ x, y < f
  | [], f, last, h => ⟨h.1, by simp⟩
  | g :: r, f, last, h => by
    obtain ⟨h1, h2⟩ := RiseR.last_lt r f g h.2
    have := h.1
    refine ⟨by omega, fun y hy => ?_⟩
    rcases List.mem_cons.1 hy with rfl | hy
    · exact h1
    · exact h2 y hy
theorem loOf_snoc (b : Int) : ∀ (x : List Int) (f last : Int), RiseR last (x ++ [f]) → loOf b last (x ++ [f]) = if f > b then loOf b last x else f
  | [], f, last, _ => by
    show (if f > b then last else loOf b f []) = _
    split <;> rfl
  | g :: r, f, last, h => by
    have ih := loOf_snoc b r f g h.2
    have hl := RiseR.last_lt (g :: r) f last h
    rw [List.cons_append, loOf, loOf, ih]
    by_cases hg : g > b
    · have := hl.2 g List.mem_cons_self
      rw [if_pos hg, if_pos hg, if_pos (by omega)]
    · rw [if_neg hg, if_neg hg]
theorem hiOf_snoc (b n : Int) : ∀ (x : List Int) (f last : Int), RiseR last (x ++ [f]) → f ≤ n → hiOf b n (x ++ [f]) = if f > b then min (hiOf b n x) (f - 1) else hiOf b n x
  | [], f, last, _, hf => by
    show (if f > b then f - 1 else hiOf b n []) = _
    split
    · show f - 1 = min n (f - 1)
      omega
    · rfl
  | g :: r, f, last, h, hf => by
    have ih := hiOf_snoc b n r f g h.2 hf
    have hl := RiseR.last_lt (g :: r) f last h
    have := hl.2 g List.mem_cons_self
    rw [List.cons_append, hiOf, hiOf, ih]
    by_cases hg : g > b
    · rw [if_pos hg, if_pos hg, if_pos (by omega)]; omega
    · rw [if_neg hg, if_neg hg]
theorem shiftR_take (d : Int) (l : List Int) (i : Nat) : shiftR d (l.take i) = (shiftR d l).take i := by
  unfold shiftR
  rw [List.map_take]
theorem shiftR_snoc (d : Int) (l : List Int) (i : Nat) (hi : i < l.length) : shiftR d (l.take (i + 1)) = shiftR d (l.take i) ++ [l.getD i 0 + d] := by
  rw [List.take_succ_eq_append_getElem hi]
  unfold shiftR
  rw [List.map_append]
  simp [List.getD_eq_getElem?_getD, hi]
/-- One floor more of a round. -/
theorem shift_more (b low high : Int) (fl : List Int) (hr : RiseR low (shiftR low fl)) (hh : ∀ x ∈ shiftR low fl, low < x ∧ x ≤ high) (i : Nat) (hi : i < fl.length) :
    shiftR low (fl.take (i + 1)) = shiftR low (fl.take i) ++ [fl.getD i 0 + low] ∧
    loOf b low (shiftR low (fl.take (i + 1))) = (if fl.getD i 0 + low > b then loOf b low (shiftR low (fl.take i)) else fl.getD i 0 + low) ∧
    hiOf b high (shiftR low (fl.take (i + 1))) = (if fl.getD i 0 + low > b then min (hiOf b high (shiftR low (fl.take i))) (fl.getD i 0 + low - 1) else hiOf b high (shiftR low (fl.take i))) ∧
    low < fl.getD i 0 + low ∧ fl.getD i 0 + low ≤ high := by
  have hs := shiftR_snoc low fl i hi
  have ht : shiftR low fl = shiftR low (fl.take (i + 1)) ++ shiftR low (fl.drop (i + 1)) := by
    unfold shiftR; rw [← List.map_append, List.take_append_drop]
  have hp : RiseR low (shiftR low (fl.take i) ++ [fl.getD i 0 + low]) := by
    rw [← hs]
    rw [ht] at hr
    exact RiseR.prefix_ _ _ _ hr
  have hm := hh (fl.getD i 0 + low) (by rw [ht, hs]; simp)
  refine ⟨hs, ?_, ?_, hm⟩
  · rw [hs, loOf_snoc b _ _ low hp]
  · rw [hs, hiOf_snoc b high _ _ low hp hm.2]
/-- One floor more that is counted. -/
theorem cntA_more (b : Int) (r : List Int) (i : Nat) (hi : i < r.length) : cntA b (r.take (i + 1)) = cntA b (r.take i) + (if r.getD i 0 > b then 1 else 0) := by
  rw [List.take_succ_eq_append_getElem hi, cntA_append]
  have : r.getD i 0 = r[i] := by simp [List.getD_eq_getElem?_getD, hi]
  rw [this, cntA, cntA]
/-- The guard of a play in rounds, and the play. -/
def rguard (a0 a1 a2 a3 : Int) : Bool := (((decide (1 ≤ a0) && decide (a0 ≤ 10)) && (decide (1 ≤ a1) && decide (a1 ≤ 10))) && (decide (0 ≤ a2) && decide (a2 ≤ 1000))) && (decide (0 ≤ a3) && decide (a3 ≤ a2))
def rplay (a0 a1 a2 a3 : Int) : List (List Int) := playR a1.toNat a3 1000 a0.toNat 0 a2
def rhouse (a0 a1 a2 : Int) : Bool := ((decide (1 ≤ a0) && decide (a0 ≤ 10)) && (decide (1 ≤ a1) && decide (a1 ≤ 10))) && (decide (0 ≤ a2) && decide (a2 ≤ 1000))
theorem rhouse_true {a0 a1 a2 : Int} (h : rhouse a0 a1 a2 = true) : ∃ e h : Nat, a0 = e ∧ a1 = h ∧ 1 ≤ e ∧ e ≤ 10 ∧ 1 ≤ h ∧ h ≤ 10 ∧ 0 ≤ a2 ∧ a2 ≤ 1000 := by
  unfold rhouse at h
  simp only [Bool.and_eq_true, decide_eq_true_eq] at h
  exact ⟨a0.toNat, a1.toNat, by omega, by omega, by omega, by omega, by omega, by omega, by omega, by omega⟩
theorem rguard_true {a0 a1 a2 a3 : Int} (h : rguard a0 a1 a2 a3 = true) : ∃ e h : Nat, a0 = e ∧ a1 = h ∧ 1 ≤ e ∧ e ≤ 10 ∧ 1 ≤ h ∧ h ≤ 10 ∧ PlayAt h a3 1000 e 0 a2 ∧ rplay a0 a1 a2 a3 = playR h a3 1000 e 0 a2 := by
  unfold rguard at h
  simp only [Bool.and_eq_true, decide_eq_true_eq] at h
  refine ⟨a0.toNat, a1.toNat, by omega, by omega, by omega, by omega, by omega, by omega, PlayAt.start _ _ _ _ (by omega) (by omega) (by omega) (by omega) (by omega) (by omega) (by omega), rfl⟩
theorem playR_flat (h : Nat) (b : Int) : ∀ (k e : Nat) (low high : Int), e ≤ 10 → (playR h b k e low high).flatten.length ≤ 10 * k
  | 0, _, _, _, _ => Nat.le_refl _
  | k + 1, e, low, high, he => by
    rw [playR]
    split
    · have h1 := playR_flat h b k (e - cntA b (roundR h e low high)) (loOf b low (roundR h e low high)) (hiOf b high (roundR h e low high)) (by omega)
      have h2 := roundR_len h e low high
      simp only [List.flatten_cons, List.length_append]
      omega
    · simp
theorem totA_flat (b : Int) : ∀ rows : List (List Int), cntA b rows.flatten = totA b rows
  | [] => rfl
  | r :: s => by rw [List.flatten_cons, cntA_append, totA, totA_flat b s]
theorem flat_take (rows : List (List Int)) (i : Nat) (hi : i < rows.length) : (rows.take (i + 1)).flatten = (rows.take i).flatten ++ rows.getD i [] := by
  rw [List.take_succ_eq_append_getElem hi, List.flatten_append]
  simp [List.getD_eq_getElem?_getD, hi]
theorem flat_le (rows : List (List Int)) (i : Nat) : (rows.take i).flatten.length ≤ rows.flatten.length := by
  have h := congrArg List.length (congrArg List.flatten (List.take_append_drop i rows))
  rw [List.flatten_append, List.length_append] at h
  omega
/-- All numbers up to n at which G is greatest. -/
def greatR (G : Int → Int) (n : Int) : Nat → Int → List Int → Int → List Int
  | 0, _, out, _ => out
  | d + 1, b, out, most => if b ≤ n then (if G b > most then greatR G n d (b + 1) [b] (G b) else if G b = most then greatR G n d (b + 1) (out ++ [b]) most else greatR G n d (b + 1) out most) else out
def slowL (a0 a1 a2 : Int) : List Int := greatR (fun b => ((rplay a0 a1 a2 b).length : Int)) a2 (a2 + 1).toNat 0 [] (-1)
def slowG (a0 a1 a2 : Int) : Bool := rhouse a0 a1 a2 && decide (a2 ≤ 200)
theorem greatR_step (G : Int → Int) (n : Int) (d : Nat) (b : Int) (out : List Int) (most : Int) (hb : b ≤ n) : greatR G n (d + 1) b out most = if G b > most then greatR G n d (b + 1) [b] (G b) else if G b = most then greatR G n d (b + 1) (out ++ [b]) most else greatR G n d (b + 1) out most := by
  rw [greatR, if_pos hb]
theorem greatR_zero (G : Int → Int) (n : Int) (d : Nat) (b : Int) (hG : 0 ≤ G b) : greatR G n d b [] (-1) = greatR G n d b [] 0 := by
  cases d with
  | zero => rfl
  | succ d =>
    rw [greatR, greatR]
    by_cases hb : b ≤ n
    · rw [if_pos hb, if_pos hb, if_pos (by omega)]
      by_cases h0 : G b > 0
      · rw [if_pos h0]
      · rw [if_neg h0, if_pos (by omega), show G b = 0 by omega]; rfl
    · rw [if_neg hb, if_neg hb]
theorem greatR_len (G : Int → Int) (n : Int) : ∀ (d : Nat) (b : Int) (out : List Int) (most : Int), (greatR G n d b out most).length ≤ out.length + d
  | 0, _, out, _ => Nat.le_refl _
  | d + 1, b, out, most => by
    rw [greatR]
    split
    · split
      · have := greatR_len G n d (b + 1) [b] (G b)
        simp at this; omega
      · split
        · have := greatR_len G n d (b + 1) (out ++ [b]) most
          simp at this; omega
        · have := greatR_len G n d (b + 1) out most
          omega
    · omega

end Go.Proofs.YtbiibhfcclfoiaaLib
