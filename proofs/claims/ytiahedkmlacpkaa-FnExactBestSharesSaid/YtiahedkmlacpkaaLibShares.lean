/- Plain laws on numbers and lists (Shares), without any program. Conditions: those of each lemma. -/
set_option linter.unusedVariables false
set_option linter.unusedSimpArgs false
namespace Go.Proofs.YtiahedkmlacpkaaLib
def sSum : List Int → Int
  | [] => 0
  | x :: r => x + sSum r
theorem sSum_append : ∀ (x y : List Int), sSum (x ++ y) = sSum x + sSum y
  | [], y => by simp [sSum]
  | a :: r, y => by
    show a + sSum (r ++ y) = a + sSum r + sSum y
    rw [sSum_append r y]; omega
/-- The numbers from 0 to e. -/
def sRow (e : Nat) : List Int := (List.range (e + 1)).map (fun (b : Nat) => (b : Int))
/-- All rows of m numbers from 0 to e, in order. -/
def sx (e : Nat) : Nat → List (List Int)
  | 0 => [[]]
  | m + 1 => (sRow e).flatMap (fun b => (sx e m).map (fun c => b :: c))
/-- One more number behind. -/
def sNext (e : Nat) (l : List (List Int)) : List (List Int) := l.flatMap (fun c => (sRow e).map (fun b => c ++ [b]))
theorem sx_next (e : Nat) : ∀ m, sx e (m + 1) = sNext e (sx e m)
  | 0 => by
    simp only [sx, sNext, List.flatMap_cons, List.flatMap_nil, List.append_nil, List.map_cons, List.map_nil, List.nil_append]
    induction sRow e with
    | nil => rfl
    | cons a r ih => simp [ih]
  | m + 1 => by
    have ih := sx_next e m
    have h1 : sx e (m + 1 + 1) = (sRow e).flatMap (fun b => (sNext e (sx e m)).map (fun c => b :: c)) := by rw [← ih]; rfl
    have h2 : sNext e (sx e (m + 1)) = (sRow e).flatMap (fun b => ((sx e m).map (fun c => b :: c)).flatMap (fun c => (sRow e).map (fun x => c ++ [x]))) := by
      unfold sNext
      exact List.flatMap_assoc
    rw [h1, h2]
    congr 1
    funext b
    unfold sNext
    rw [List.map_flatMap, List.flatMap_map]
    congr 1
    funext c
    rw [List.map_map]
    rfl
def sAll (e : Nat) : Nat → List (List Int)
  | 0 => [[]]
  | m + 1 => sNext e (sAll e m)
theorem sAll_eq (e : Nat) : ∀ m, sAll e m = sx e m
  | 0 => rfl
  | m + 1 => by rw [sAll, sAll_eq e m, sx_next]
theorem sRow_mem (e : Nat) (b : Int) : b ∈ sRow e ↔ 0 ≤ b ∧ b ≤ e := by
  unfold sRow
  rw [List.mem_map]
  constructor
  · rintro ⟨i, hi, rfl⟩
    have := List.mem_range.1 hi
    omega
  · rintro ⟨h1, h2⟩
    exact ⟨b.toNat, List.mem_range.2 (by omega), by omega⟩
theorem sx_mem (e : Nat) : ∀ (m : Nat) (c : List Int), c ∈ sx e m ↔ c.length = m ∧ ∀ x ∈ c, 0 ≤ x ∧ x ≤ e
  | 0, c => by
    rw [sx, List.mem_singleton]
    constructor
    · rintro rfl; exact ⟨rfl, fun x hx => by cases hx⟩
    · rintro ⟨h, _⟩; exact List.eq_nil_of_length_eq_zero h
  | m + 1, c => by
    rw [sx, List.mem_flatMap]
    constructor
    · rintro ⟨b, hb, hc⟩
      rw [List.mem_map] at hc
      obtain ⟨d, hd, rfl⟩ := hc
      have h1 := (sx_mem e m d).1 hd
      refine ⟨by rw [List.length_cons, h1.1], fun x hx => ?_⟩
      rcases List.mem_cons.1 hx with rfl | hx
      · exact (sRow_mem e _).1 hb
      · exact h1.2 x hx
    · rintro ⟨h1, h2⟩
      match c, h1 with
      | b :: d, h1 =>
        exact ⟨b, (sRow_mem e b).2 (h2 b List.mem_cons_self), List.mem_map.2 ⟨d, (sx_mem e m d).2 ⟨by simpa using h1, fun x hx => h2 x (List.mem_cons_of_mem _ hx)⟩, rfl⟩⟩
section
variable (sh : List Int → Int × Bool) (E : Int)
/-- The program's step. -/
def sStep (acc : List Int × Int) (c : List Int) : List Int × Int := if sSum c = E then (if (sh c).2 = true ∧ (sh c).1 < acc.2 then (c, (sh c).1) else acc) else acc
def sComb (acc r : List Int × Int) : List Int × Int := if r.2 < acc.2 then r else acc
/-- The reference's shares. -/
def sHs : Nat → Nat → List Int → List Int × Int
  | 0, es, b => if (sh b).2 = true then (if (es : Int) > 0 then ([], 1000) else (b, (sh b).1)) else ([], 1000)
  | m + 1, es, b => (List.range (es + 1)).foldl (fun acc s => sComb acc (sHs m (es - s) (b ++ [(s : Int)]))) ([], 1000)
theorem sComb_assoc (a x r : List Int × Int) : sComb a (sComb x r) = sComb (sComb a x) r := by
  unfold sComb
  by_cases h1 : r.2 < x.2 <;> by_cases h2 : x.2 < a.2 <;> by_cases h3 : r.2 < a.2 <;> simp [h1, h2, h3] <;> omega
theorem sComb_fold {β : Type} (f : β → List Int × Int) : ∀ (l : List β) (a z : List Int × Int), l.foldl (fun acc s => sComb acc (f s)) (sComb a z) = sComb a (l.foldl (fun acc s => sComb acc (f s)) z)
  | [], _, _ => rfl
  | s :: r, a, z => by
    rw [List.foldl_cons, List.foldl_cons, ← sComb_assoc, sComb_fold f r]
theorem sComb_le (a r : List Int × Int) : (sComb a r).2 ≤ a.2 := by
  unfold sComb; split <;> omega
theorem sStep_le (a : List Int × Int) (c : List Int) : (sStep sh E a c).2 ≤ a.2 := by
  unfold sStep
  by_cases h1 : sSum c = E
  · rw [if_pos h1]
    by_cases h2 : (sh c).2 = true ∧ (sh c).1 < a.2
    · rw [if_pos h2]; exact Int.le_of_lt h2.2
    · rw [if_neg h2]; exact Int.le_refl _
  · rw [if_neg h1]; exact Int.le_refl _
theorem sFold_le : ∀ (l : List (List Int)) (a : List Int × Int), (l.foldl (sStep sh E) a).2 ≤ a.2
  | [], _ => Int.le_refl _
  | c :: r, a => by
    have h1 := sFold_le r (sStep sh E a c)
    have h2 := sStep_le sh E a c
    rw [List.foldl_cons]; omega
theorem sFold_mem : ∀ (l : List (List Int)) (a : List Int × Int) (c : List Int), c ∈ l → sSum c = E → (sh c).2 = true → (l.foldl (sStep sh E) a).2 ≤ (sh c).1
  | y :: r, a, c, hc, h1, h2 => by
    rw [List.foldl_cons]
    rcases List.mem_cons.1 hc with rfl | hc
    · have h3 := sFold_le sh E r (sStep sh E a c)
      have h4 : (sStep sh E a c).2 ≤ (sh c).1 := by
        unfold sStep
        rw [if_pos h1]
        by_cases h5 : (sh c).1 < a.2
        · rw [if_pos ⟨h2, h5⟩]; exact Int.le_refl _
        · rw [if_neg (by intro hh; exact h5 hh.2)]; omega
      omega
    · exact sFold_mem r _ c hc h1 h2
/-- What is not asked for changes nothing. -/
theorem sFold_none : ∀ (l : List (List Int)) (a : List Int × Int), (∀ c ∈ l, sSum c ≠ E) → l.foldl (sStep sh E) a = a
  | [], _, _ => rfl
  | c :: r, a, h => by
    rw [List.foldl_cons]
    have : sStep sh E a c = a := by unfold sStep; rw [if_neg (h c List.mem_cons_self)]
    rw [this]
    exact sFold_none r a (fun x hx => h x (List.mem_cons_of_mem _ hx))
theorem sSum_nonneg : ∀ c : List Int, (∀ x ∈ c, 0 ≤ x) → 0 ≤ sSum c
  | [], _ => Int.le_refl _
  | x :: r, h => by
    have h1 := h x List.mem_cons_self
    have h2 := sSum_nonneg r (fun y hy => h y (List.mem_cons_of_mem _ hy))
    show 0 ≤ x + sSum r
    omega
theorem foldl_flatMap' {α β γ : Type} (f : γ → β → γ) (g : α → List β) : ∀ (l : List α) (a : γ), (l.flatMap g).foldl f a = l.foldl (fun acc x => (g x).foldl f acc) a
  | [], _ => rfl
  | x :: r, a => by rw [List.flatMap_cons, List.foldl_append, List.foldl_cons, foldl_flatMap' f g r]
theorem foldl_ext_mem {α γ : Type} (f g : γ → α → γ) (P : γ → Prop) (hP : ∀ a x, P a → P (g a x)) : ∀ (l : List α) (a : γ), P a → (∀ a, P a → ∀ x ∈ l, f a x = g a x) → l.foldl f a = l.foldl g a
  | [], _, _, _ => rfl
  | x :: r, a, ha, h => by
    rw [List.foldl_cons, List.foldl_cons, h a ha x List.mem_cons_self]
    exact foldl_ext_mem f g P hP r _ (hP a x ha) (fun b hb y hy => h b hb y (List.mem_cons_of_mem _ hy))
theorem sMain (e : Nat) (hE : E = (e : Int)) : ∀ (m es : Nat) (b : List Int) (a : List Int × Int), 0 ≤ sSum b → sSum b + (es : Int) = E → a.2 ≤ 1000 →
    ((sx e m).map (fun c => b ++ c)).foldl (sStep sh E) a = sComb a (sHs sh m es b)
  | 0, es, b, a, _, hb, ha => by
    simp only [sx, List.map_cons, List.map_nil, List.append_nil, List.foldl_cons, List.foldl_nil, sStep, sHs]
    by_cases h1 : es = 0
    · subst h1
      rw [if_pos (by omega)]
      cases h2 : (sh b).2 with
      | true =>
        rw [if_pos rfl, if_neg (show ¬ ((0 : Nat) : Int) > 0 by omega)]
        unfold sComb
        by_cases h3 : (sh b).1 < a.2
        · rw [if_pos ⟨rfl, h3⟩, if_pos h3]
        · rw [if_neg (fun hh => h3 hh.2), if_neg h3]
      | false =>
        rw [if_neg (by simp), if_neg (by simp)]
        unfold sComb
        rw [if_neg (by simp only; omega)]
    · rw [if_neg (by omega)]
      have : sComb a (if (sh b).2 = true then (if (es : Int) > 0 then ([], 1000) else (b, (sh b).1)) else ([], 1000)) = a := by
        rw [if_pos (show (es : Int) > 0 by omega)]
        split <;> (unfold sComb; rw [if_neg (by simp only; omega)])
      rw [this]
  | m + 1, es, b, a, hb0, hb, ha => by
    have hes : es ≤ e ∨ e < es := by omega
    have e1 : ((sx e (m + 1)).map (fun c => b ++ c)) = (sRow e).flatMap (fun s => (sx e m).map (fun c => (b ++ [s]) ++ c)) := by
      rw [sx, List.map_flatMap]
      congr 1
      funext s
      rw [List.map_map]
      congr 1
      funext c
      simp
    rw [e1, foldl_flatMap', sRow, List.foldl_map]
    have key : ∀ (K : Nat) (a : List Int × Int), a.2 ≤ 1000 → (List.range (K + 1)).foldl (fun acc (s : Nat) => ((sx e m).map (fun c => (b ++ [(s : Int)]) ++ c)).foldl (sStep sh E) acc) a = (List.range (min K es + 1)).foldl (fun acc (s : Nat) => sComb acc (sHs sh m (es - s) (b ++ [(s : Int)]))) a := by
      intro K
      induction K with
      | zero =>
        intro a ha
        rw [Nat.zero_min]
        simp only [Nat.zero_add, List.range_one, List.foldl_cons, List.foldl_nil]
        exact sMain e hE m (es - 0) (b ++ [((0 : Nat) : Int)]) a (by rw [sSum_append]; simp [sSum]; omega) (by rw [sSum_append]; simp [sSum]; omega) ha
      | succ K ih =>
        intro a ha
        rw [List.range_succ, List.foldl_append, ih a ha, List.foldl_cons, List.foldl_nil]
        have hle : ∀ (l : List Nat) (a : List Int × Int), a.2 ≤ 1000 → (l.foldl (fun acc (s : Nat) => sComb acc (sHs sh m (es - s) (b ++ [(s : Int)]))) a).2 ≤ 1000 := by
          intro l
          induction l with
          | nil => intro a ha; exact ha
          | cons x r ihr => intro a ha; rw [List.foldl_cons]; exact ihr _ (by have := sComb_le a (sHs sh m (es - x) (b ++ [(x : Int)])); omega)
        by_cases hK : K + 1 ≤ es
        · rw [show min K es = K by omega, show min (K + 1) es = K + 1 by omega, List.range_succ (n := K + 1), List.foldl_append, List.foldl_cons, List.foldl_nil]
          exact sMain e hE m (es - (K + 1)) (b ++ [((K + 1 : Nat) : Int)]) _ (by rw [sSum_append]; simp only [sSum]; omega) (by rw [sSum_append]; simp only [sSum]; omega) (hle _ a ha)
        · rw [show min K es = es by omega, show min (K + 1) es = es by omega]
          refine sFold_none sh E _ _ (fun c hc => ?_)
          rw [List.mem_map] at hc
          obtain ⟨d, hd, rfl⟩ := hc
          have h1 := sSum_nonneg d (fun x hx => (((sx_mem e m d).1 hd).2 x hx).1)
          rw [sSum_append, sSum_append]
          simp only [sSum]
          omega
    have hsb : (sHs sh (m + 1) es b) = (List.range (es + 1)).foldl (fun acc s => sComb acc (sHs sh m (es - s) (b ++ [(s : Int)]))) ([], 1000) := rfl
    have hz : sComb a ([], 1000) = a := by unfold sComb; rw [if_neg (by simp only; omega)]
    rw [key e a ha, hsb, ← sComb_fold (fun (s : Nat) => sHs sh m (es - s) (b ++ [(s : Int)])), hz]
    rw [show min e es = es by omega]
end
section
variable (sh : List Int → Int × Bool) (E : Int)
theorem sTwo (never : Int) (hn : 1000 ≤ never) : ∀ (l : List (List Int)) (a b : List Int × Int), (∀ c ∈ l, (sh c).2 = true → (sh c).1 < 1000) → (a = b ∨ (a = ([], never) ∧ b = ([], 1000))) →
    (l.foldl (sStep sh E) a = l.foldl (sStep sh E) b ∨ (l.foldl (sStep sh E) a = ([], never) ∧ l.foldl (sStep sh E) b = ([], 1000)))
  | [], a, b, _, h => h
  | c :: r, a, b, hl, h => by
    rw [List.foldl_cons, List.foldl_cons]
    refine sTwo never hn r _ _ (fun x hx => hl x (List.mem_cons_of_mem _ hx)) ?_
    rcases h with rfl | ⟨rfl, rfl⟩
    · exact Or.inl rfl
    · unfold sStep
      by_cases h1 : sSum c = E
      · rw [if_pos h1, if_pos h1]
        cases h2 : (sh c).2 with
        | true =>
          have h3 := hl c List.mem_cons_self h2
          left
          rw [if_pos ⟨rfl, Int.lt_of_lt_of_le h3 hn⟩, if_pos ⟨rfl, h3⟩]
        | false =>
          right
          rw [if_neg (by simp), if_neg (by simp)]
          exact ⟨rfl, rfl⟩
      · rw [if_neg h1, if_neg h1]
        exact Or.inr ⟨rfl, rfl⟩
theorem sFinal (e n : Nat) (never : Int) (hn : 1000 ≤ never) (hl : ∀ c ∈ sx e n, (sh c).2 = true → (sh c).1 < 1000) (c0 : List Int) (h0 : c0 ∈ sx e n) (h1 : sSum c0 = (e : Int)) (h2 : (sh c0).2 = true) :
    (sAll e n).foldl (sStep sh (e : Int)) ([], never) = sHs sh n e [] ∧ (sHs sh n e []).2 < 1000 := by
  have hm := sMain sh (e : Int) e rfl n e [] ([], 1000) (Int.le_refl _) (by simp [sSum]) (Int.le_refl _)
  have hmap : (sx e n).map (fun c => [] ++ c) = sx e n := by simp
  rw [hmap] at hm
  have hlt : ((sx e n).foldl (sStep sh (e : Int)) ([], 1000)).2 < 1000 := by
    have h3 := sFold_mem sh (e : Int) (sx e n) ([], 1000) c0 h0 h1 h2
    have h4 := hl c0 h0 h2
    omega
  have hc : sComb ([], 1000) (sHs sh n e []) = sHs sh n e [] ∧ (sHs sh n e []).2 < 1000 := by
    rw [hm] at hlt
    unfold sComb at hlt ⊢
    by_cases h5 : (sHs sh n e []).2 < 1000
    · simp only [h5, if_true]; exact ⟨trivial, trivial⟩
    · simp only [h5, if_false] at hlt
      exact absurd hlt (Int.lt_irrefl _)
  refine ⟨?_, hc.2⟩
  rw [sAll_eq]
  rcases sTwo sh (e : Int) never hn (sx e n) ([], never) ([], 1000) hl (Or.inr ⟨rfl, rfl⟩) with h | ⟨_, h⟩
  · rw [h, hm, hc.1]
  · rw [h] at hlt
    exact absurd hlt (Int.lt_irrefl _)
end
/-- Each house with floors has an egg. -/
def sOk : List Int → List Int → Prop
  | n :: t, q :: u => (0 < n → q ≠ 0) ∧ sOk t u
  | _, _ => True
def sOnes (l : List Int) : List Int := l.map (fun n => if 0 < n then 1 else 0)
theorem sOnes_ok : ∀ l, sOk l (sOnes l)
  | [] => trivial
  | n :: t => ⟨fun h => by simp [h], sOnes_ok t⟩
theorem sOnes_mem (l : List Int) : ∀ x ∈ sOnes l, 0 ≤ x ∧ x ≤ 1 := by
  intro x hx
  unfold sOnes at hx
  rw [List.mem_map] at hx
  obtain ⟨n, _, rfl⟩ := hx
  split <;> omega
/-- Shares that serve. -/
def sGive (l : List Int) (d : Int) : List Int := match sOnes l with
  | [] => []
  | q :: u => (q + d) :: u
theorem sGive_ok (n : Int) (t : List Int) (d : Int) (hd : 0 ≤ d) : sOk (n :: t) (sGive (n :: t) d) := by
  show (0 < n → (if 0 < n then (1 : Int) else 0) + d ≠ 0) ∧ sOk t (sOnes t)
  exact ⟨fun h => by rw [if_pos h]; omega, sOnes_ok t⟩
theorem sGive_sum (n : Int) (t : List Int) (d : Int) : sSum (sGive (n :: t) d) = sSum (sOnes (n :: t)) + d := by
  show (if 0 < n then (1 : Int) else 0) + d + sSum (sOnes t) = (if 0 < n then (1 : Int) else 0) + sSum (sOnes t) + d
  omega
theorem sGive_in (n : Int) (t : List Int) (e : Nat) (d : Int) (hd : 0 ≤ d) (hs : sSum (sOnes (n :: t)) + d = e) : sGive (n :: t) d ∈ sx e (n :: t).length := by
  have hnn : ∀ c : List Int, (∀ x ∈ c, 0 ≤ x) → 0 ≤ sSum c ∧ ∀ x ∈ c, x ≤ sSum c := by
    intro c
    induction c with
    | nil => intro _; exact ⟨Int.le_refl _, fun x hx => by cases hx⟩
    | cons a r ih =>
      intro h
      have h1 := h a List.mem_cons_self
      obtain ⟨h2, h3⟩ := ih (fun y hy => h y (List.mem_cons_of_mem _ hy))
      refine ⟨by show 0 ≤ a + sSum r; omega, fun x hx => ?_⟩
      show x ≤ a + sSum r
      rcases List.mem_cons.1 hx with rfl | hx
      · omega
      · have := h3 x hx; omega
  have h1 : sGive (n :: t) d = ((if 0 < n then (1 : Int) else 0) + d) :: sOnes t := rfl
  have h0 : ∀ x ∈ sGive (n :: t) d, 0 ≤ x := by
    intro x hx
    rw [h1] at hx
    rcases List.mem_cons.1 hx with rfl | hx
    · split <;> omega
    · exact (sOnes_mem t x hx).1
  obtain ⟨h2, h3⟩ := hnn _ h0
  rw [sGive_sum, hs] at h3
  refine (sx_mem e _ _).2 ⟨by rw [h1, List.length_cons, List.length_cons]; unfold sOnes; rw [List.length_map], fun x hx => ⟨h0 x hx, h3 x hx⟩⟩

end Go.Proofs.YtiahedkmlacpkaaLib
