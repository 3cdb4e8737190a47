/- Plain laws on numbers and lists (Tree), without any program. Conditions: those of each lemma. -/
set_option linter.unusedVariables false
set_option linter.unusedSimpArgs false
namespace Go.Proofs.YtaniojfokildiaaGreatDoorLib
inductive Tr where
  | nil : Tr
  | node (b a : Tr) : Tr
def Tr.size : Tr → Nat
  | .nil => 0
  | .node b a => b.size + a.size + 1
def Tr.tests : Tr → Int
  | .nil => 0
  | .node b a => 1 + max b.tests a.tests
def Tr.sum : Tr → Int
  | .nil => 0
  | .node b a => b.sum + a.sum + (b.size + a.size + 1) + 1
/-- How many tests a break needs. -/
def Tr.lenT : Tr → Int → Nat
  | .nil, _ => 0
  | .node b a, x => if (b.size : Int) + 1 > x then b.lenT x + 1 else a.lenT (x - (b.size + 1)) + 1
/-- The sum of the first n numbers of tests. -/
def sumTo (g : Nat → Int) : Nat → Int
  | 0 => 0
  | n + 1 => sumTo g n + g n
theorem sumTo_congr (g h : Nat → Int) : ∀ n, (∀ i, i < n → g i = h i) → sumTo g n = sumTo h n
  | 0, _ => rfl
  | n + 1, e => by rw [sumTo, sumTo, sumTo_congr g h n (fun i hi => e i (by omega)), e n (by omega)]
theorem sumTo_add (g : Nat → Int) (c : Int) : ∀ n, sumTo (fun i => g i + c) n = sumTo g n + n * c
  | 0 => by simp [sumTo]
  | n + 1 => by rw [sumTo, sumTo, sumTo_add g c n]; have : ((n + 1 : Nat) : Int) * c = n * c + c := by rw [Int.natCast_succ, Int.add_mul, Int.one_mul]
                omega
theorem sumTo_split (g : Nat → Int) (m : Nat) : ∀ n, sumTo g (m + n) = sumTo g m + sumTo (fun i => g (m + i)) n
  | 0 => by simp [sumTo]
  | n + 1 => by rw [← Nat.add_assoc, sumTo, sumTo_split g m n, sumTo]; omega
theorem Tr.sum_is : ∀ t : Tr, sumTo (fun x => (t.lenT x : Int)) (t.size + 1) = t.sum
  | .nil => rfl
  | .node b a => by
    have h1 := sum_is b
    have h2 := sum_is a
    have e : (Tr.node b a).size + 1 = (b.size + 1) + (a.size + 1) := by simp only [Tr.size]; omega
    rw [e, sumTo_split]
    have e1 : sumTo (fun x => ((Tr.node b a).lenT x : Int)) (b.size + 1) = sumTo (fun x => (b.lenT x : Int) + 1) (b.size + 1) := by
      apply sumTo_congr
      intro i hi
      simp only [Tr.lenT]
      rw [if_pos (by omega)]; omega
    have e2 : sumTo (fun i => ((Tr.node b a).lenT ((b.size + 1 + i : Nat) : Int) : Int)) (a.size + 1) = sumTo (fun x => (a.lenT x : Int) + 1) (a.size + 1) := by
      apply sumTo_congr
      intro i hi
      simp only [Tr.lenT]
      rw [if_neg (by omega), show ((b.size + 1 + i : Nat) : Int) - ((b.size : Int) + 1) = (i : Int) by omega]; omega
    rw [e1, e2, sumTo_add, sumTo_add, h1, h2]
    simp only [Tr.sum]
    omega
end Go.Proofs.YtaniojfokildiaaGreatDoorLib
