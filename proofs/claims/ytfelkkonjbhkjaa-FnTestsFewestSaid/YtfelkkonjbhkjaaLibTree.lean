/- Plain laws on numbers and lists (Tree), without any program. Conditions: those of each lemma. -/
set_option linter.unusedVariables false
set_option linter.unusedSimpArgs false
namespace Go.Proofs.YtfelkkonjbhkjaaLib
inductive Tr where
  | nil : Tr
  | node (b a : Tr) : Tr
def Tr.size : Tr → Nat
  | .nil => 0
  | .node b a => b.size + a.size + 1
def Tr.toL (fr : Int) : Tr → List Int
  | .nil => []
  | .node b a => (fr + b.size) :: (b.toL fr ++ a.toL (fr + b.size + 1))
theorem Tr.toL_length : ∀ (t : Tr) (fr : Int), (t.toL fr).length = t.size
  | .nil, _ => rfl
  | .node b a, fr => by simp [Tr.toL, Tr.size, toL_length b, toL_length a]
theorem Tr.toL_shift : ∀ (t : Tr) (fr d : Int), (t.toL fr).map (fun x => x + d) = t.toL (fr + d)
  | .nil, _, _ => rfl
  | .node b a, fr, d => by
    simp only [Tr.toL, List.map_cons, List.map_append, toL_shift b, toL_shift a]
    rw [show fr + (b.size : Int) + d = fr + d + (b.size : Int) by omega, show fr + (b.size : Int) + 1 + d = fr + d + (b.size : Int) + 1 by omega]
theorem Tr.toL_range : ∀ (t : Tr) (fr x : Int), x ∈ t.toL fr → fr ≤ x ∧ x < fr + t.size
  | .nil, _, _, h => by simp [Tr.toL] at h
  | .node b a, fr, x, h => by
    simp only [Tr.toL, List.mem_cons, List.mem_append] at h
    simp only [Tr.size]
    rcases h with h | h | h
    · omega
    · have := toL_range b fr x h; omega
    · have := toL_range a _ x h; omega
/-- Is a list the tree of floors from fr on? -/
def trOk : Nat → Int → List Int → Bool
  | _, _, [] => true
  | 0, _, _ :: _ => false
  | n + 1, fr, x :: r => decide (fr ≤ x) && decide (x ≤ fr + r.length) && trOk n fr (r.take (x - fr).toNat) && trOk n (x + 1) (r.drop (x - fr).toNat)
theorem trOk_fuel : ∀ (n m : Nat) (fr : Int) (l : List Int), l.length ≤ n → l.length ≤ m → trOk n fr l = trOk m fr l
  | _, _, _, [], _, _ => by simp [trOk]
  | 0, _, _, _ :: _, h, _ => by simp at h
  | _, 0, _, _ :: _, _, h => by simp at h
  | n + 1, m + 1, fr, x :: r, h1, h2 => by
    simp only [List.length_cons] at h1 h2
    simp only [trOk]
    rw [trOk_fuel n m fr (r.take (x - fr).toNat) (by rw [List.length_take]; omega) (by rw [List.length_take]; omega),
      trOk_fuel n m (x + 1) (r.drop (x - fr).toNat) (by rw [List.length_drop]; omega) (by rw [List.length_drop]; omega)]
theorem trOk_tr : ∀ (n : Nat) (fr : Int) (l : List Int), trOk n fr l = true → ∃ t : Tr, l = t.toL fr
  | _, _, [], _ => ⟨.nil, rfl⟩
  | 0, _, _ :: _, h => by simp [trOk] at h
  | n + 1, fr, x :: r, h => by
    simp only [trOk, Bool.and_eq_true, decide_eq_true_eq] at h
    obtain ⟨⟨⟨h1, h2⟩, h3⟩, h4⟩ := h
    obtain ⟨b, hb⟩ := trOk_tr n fr _ h3
    obtain ⟨a, ha⟩ := trOk_tr n (x + 1) _ h4
    refine ⟨.node b a, ?_⟩
    have hbl : b.size = (x - fr).toNat := by
      rw [← Tr.toL_length b fr, ← hb, List.length_take]; omega
    simp only [Tr.toL]
    have e : fr + (b.size : Int) = x := by omega
    rw [e, ← hb, ← ha, List.take_append_drop]
theorem toL_take (b a : Tr) (fr : Int) : (((Tr.node b a).toL fr).take (b.size + 1)).drop 1 = b.toL fr := by
  simp only [Tr.toL, List.take_succ_cons, List.drop_succ_cons, List.drop_zero]
  rw [List.take_append_of_le_length (by rw [Tr.toL_length]; omega), List.take_of_length_le (by rw [Tr.toL_length]; omega)]
theorem toL_drop (b a : Tr) (fr : Int) : ((Tr.node b a).toL fr).drop (b.size + 1) = a.toL (fr + b.size + 1) := by
  simp only [Tr.toL, List.drop_succ_cons]
  rw [List.drop_append_of_le_length (by rw [Tr.toL_length]; omega), List.drop_of_length_le (by rw [Tr.toL_length]; omega), List.nil_append]
def Tr.tests : Tr → Int
  | .nil => 0
  | .node b a => 1 + max b.tests a.tests
def Tr.eggs : Tr → Int
  | .nil => 0
  | .node b a => max (b.eggs + 1) a.eggs
def Tr.sum : Tr → Int
  | .nil => 0
  | .node b a => b.sum + a.sum + (b.size + a.size + 1) + 1
theorem Tr.tests_range : ∀ t : Tr, 0 ≤ t.tests ∧ t.tests ≤ t.size
  | .nil => by simp [Tr.tests, Tr.size]
  | .node b a => by have := tests_range b; have := tests_range a; simp only [Tr.tests, Tr.size]; omega
theorem Tr.eggs_range : ∀ t : Tr, 0 ≤ t.eggs ∧ t.eggs ≤ t.size
  | .nil => by simp [Tr.eggs, Tr.size]
  | .node b a => by have := eggs_range b; have := eggs_range a; simp only [Tr.eggs, Tr.size]; omega
theorem Tr.sum_range : ∀ t : Tr, t.size ≤ 1000 → 0 ≤ t.sum ∧ t.sum ≤ 1002 * (t.size : Int)
  | .nil, _ => by simp [Tr.sum, Tr.size]
  | .node b a, h => by
    simp only [Tr.size] at h
    have h1 := sum_range b (by omega)
    have h2 := sum_range a (by omega)
    simp only [Tr.sum, Tr.size]
    omega
def Tr.mostV (br wh : Int) : Tr → Int
  | .nil => 0
  | .node b a => max (br + b.mostV br wh) (wh + a.mostV br wh)
theorem Tr.mostV_range (br wh : Int) (h1 : 0 ≤ br ∧ br ≤ 1) (h2 : 0 ≤ wh ∧ wh ≤ 1) : ∀ t : Tr, 0 ≤ t.mostV br wh ∧ t.mostV br wh ≤ t.size
  | .nil => by simp [Tr.mostV, Tr.size]
  | .node b a => by have := mostV_range br wh h1 h2 b; have := mostV_range br wh h1 h2 a; simp only [Tr.mostV, Tr.size]; omega
theorem Tr.mostV_tests : ∀ t : Tr, t.mostV 1 1 = t.tests
  | .nil => rfl
  | .node b a => by simp only [Tr.mostV, Tr.tests, mostV_tests b, mostV_tests a]; omega
theorem Tr.mostV_eggs : ∀ t : Tr, t.mostV 1 0 = t.eggs
  | .nil => rfl
  | .node b a => by simp only [Tr.mostV, Tr.eggs, mostV_eggs b, mostV_eggs a]; omega
/-- The tree turned upside down. -/
def Tr.mirror : Tr → Tr
  | .nil => .nil
  | .node b a => .node a.mirror b.mirror
theorem Tr.mirror_size : ∀ t : Tr, t.mirror.size = t.size
  | .nil => rfl
  | .node b a => by simp only [Tr.mirror, Tr.size, mirror_size b, mirror_size a]; omega
/-- How many tests a break needs. -/
def Tr.lenT : Tr → Int → Nat
  | .nil, _ => 0
  | .node b a, x => if (b.size : Int) + 1 > x then b.lenT x + 1 else a.lenT (x - (b.size + 1)) + 1
theorem Tr.lenT_le : ∀ (t : Tr) (x : Int), t.lenT x ≤ t.size
  | .nil, _ => Nat.le_refl _
  | .node b a, x => by
    have h1 := lenT_le b x
    have h2 := lenT_le a (x - (b.size + 1))
    simp only [Tr.lenT, Tr.size]
    split <;> omega
/-- The sum of the first n numbers of tests. -/
def sumTo (g : Nat → Int) : Nat → Int
  | 0 => 0
  | n + 1 => sumTo g n + g n
theorem sumTo_congr (g h : Nat → Int) : ∀ n, (∀ i, i < n → g i = h i) → sumTo g n = sumTo h n
  | 0, _ => rfl
  | n + 1, e => by rw [sumTo, sumTo, sumTo_congr g h n (fun i hi => e i (by omega)), e n (by omega)]
theorem sumTo_add (g : Nat → Int) (c : Int) : ∀ n, sumTo (fun i => g i + c) n = sumTo g n + n * c
  | 0 => by simp [sumTo]
  | n + 1 => by rw [sumTo, sumTo, sumTo_add g c n]; have : ((n + 1 : Nat) : Int) * c = n * c + c := by rw [Int.natCast_succ, Int.add_mul, Int.one_mul]
                omega
theorem sumTo_split (g : Nat → Int) (m : Nat) : ∀ n, sumTo g (m + n) = sumTo g m + sumTo (fun i => g (m + i)) n
  | 0 => by simp [sumTo]
  | n + 1 => by rw [← Nat.add_assoc, sumTo, sumTo_split g m n, sumTo]; omega
theorem Tr.sum_is : ∀ t : Tr, sumTo (fun x => (t.lenT x : Int)) (t.size + 1) = t.sum
  | .nil => rfl
  | .node b a => by
    have h1 := sum_is b
    have h2 := sum_is a
    have e : (Tr.node b a).size + 1 = (b.size + 1) + (a.size + 1) := by simp only [Tr.size]; omega
    rw [e, sumTo_split]
    have e1 : sumTo (fun x => ((Tr.node b a).lenT x : Int)) (b.size + 1) = sumTo (fun x => (b.lenT x : Int) + 1) (b.size + 1) := by
      apply sumTo_congr
      intro i hi
      simp only [Tr.lenT]
      rw [if_pos (by omega)]; omega
    have e2 : sumTo (fun i => ((Tr.node b a).lenT ((b.size + 1 + i : Nat) : Int) : Int)) (a.size + 1) = sumTo (fun x => (a.lenT x : Int) + 1) (a.size + 1) := by
      apply sumTo_congr
      intro i hi
      simp only [Tr.lenT]
      rw [if_neg (by omega), show ((b.size + 1 + i : Nat) : Int) - ((b.size : Int) + 1) = (i : Int) by omega]; omega
    rw [e1, e2, sumTo_add, sumTo_add, h1, h2]
    simp only [Tr.sum]
    omega
/-- Catalan's numbers up to 20. -/
def catL : List Int := [1, 1, 2, 5, 14, 42, 132, 429, 1430, 4862, 16796, 58786, 208012, 742900, 2674440, 9694845, 35357670, 129644790, 477638700, 1767263190, 6564120420]
def catI (n : Nat) : Int := catL.getD n 0
theorem catI_range : ∀ n, n ≤ 20 → 1 ≤ catI n ∧ catI n ≤ 6564120420 := by decide
/-- How many trees come before one. -/
def Tr.rank : Tr → Int
  | .nil => 0
  | .node b a => sumTo (fun j => catI j * catI (b.size + a.size - j)) b.size + b.rank * catI a.size + a.rank

end Go.Proofs.YtfelkkonjbhkjaaLib
