-- written by this session's own driver (wip/gen.py) with the kit's print and contracts of our own
import Derived.Test.YteboofglcnceoaaPrintA0
namespace Go.Proofs.Yteboofglcnceoaa.PrintA
open Go.RowKit Go.Proofs.YteboofglcnceoaaLib Go.Proofs.YteboofglcnceoaaW.PrintWords Go.Proofs.YteboofglcnceoaaW.PrintLast Go.Proofs.YteboofglcnceoaaW.PrintMore
attribute [local go_sem] max2_int min2_int max_two min_two max_three min_three max_four min_four   -- for this text's walks alone
set_option linter.unusedVariables false
set_option linter.unusedSimpArgs false

/-- The cells of an array of numbers. -/
def arrV (n : Nat) (f : Nat → Int) : Array Value := ((List.range n).map (fun i => Value.int .i64 (f i))).toArray
theorem arrV_size (n : Nat) (f : Nat → Int) : (arrV n f).size = n := by simp [arrV]
theorem arrV_get (n : Nat) (f : Nat → Int) (i : Nat) (h : i < n) : (arrV n f)[i]? = some (.int .i64 (f i)) := by simp [arrV, h]
def updI (f : Nat → Int) (p : Nat) (x : Int) : Nat → Int := fun i => if i = p then x else f i
theorem arrV_set (n : Nat) (f : Nat → Int) (p : Nat) (x : Int) : (arrV n f).setIfInBounds p (.int .i64 x) = arrV n (updI f p x) := by
  apply Array.ext_getElem?
  intro i
  by_cases hi : i < n
  · rw [arrV_get _ _ _ hi, Array.getElem?_setIfInBounds]
    by_cases e : p = i
    · subst e; simp [arrV_size, hi, updI]
    · rw [if_neg e, arrV_get _ _ _ hi]; simp [updI, Ne.symm e]
  · rw [Array.getElem?_eq_none (by simp [arrV_size]; omega), Array.getElem?_eq_none (by simp [arrV_size]; omega)]
theorem arrV_congr (n : Nat) (f f' : Nat → Int) (h : ∀ i, i < n → f i = f' i) : arrV n f = arrV n f' := by
  unfold arrV; congr 1; apply List.map_congr_left; intro i hi; rw [h i (List.mem_range.1 hi)]
/-- Block g is an array of n numbers f. -/
structure ArrI (w : World) (g T n : Nat) (f : Nat → Int) : Prop where
  out : w.heap[g]? = some (.cells (arrV n f) T (0, 0))
theorem ArrI.cell {w : World} {g T n : Nat} {f : Nat → Int} (h : ArrI w g T n f) (i : Nat) (hi : i < n) : w.cell? ⟨g, i, none⟩ = some (.int .i64 (f i)) := by
  rw [blk_cell h.out, arrV_get _ _ _ hi]
theorem ArrI.frozen {w : World} {g T n : Nat} {f : Nat → Int} (h : ArrI w g T n f) (i : Nat) : w.frozen? ⟨g, i, none⟩ = false := blk_frozen h.out i
theorem ArrI.below {w w1 : World} {g T n : Nat} {f : Nat → Int} (h : ArrI w g T n f) (hb : Below w.heap.size w w1) : ArrI w1 g T n f := ⟨blk_below h.out hb⟩
theorem ArrI.lt {w : World} {g T n : Nat} {f : Nat → Int} (h : ArrI w g T n f) : g < w.heap.size := blk_lt h.out
theorem ArrI.set {w : World} {g T n : Nat} {f : Nat → Int} (h : ArrI w g T n f) (p : Nat) (x : Int) : ArrI (w.setCell ⟨g, p, none⟩ (.int .i64 x)) g T n (updI f p x) :=
  ⟨by rw [blk_set h.out, arrV_set]⟩
theorem ArrI.congr {w : World} {g T n : Nat} {f f' : Nat → Int} (h : ArrI w g T n f) (hf : ∀ i, i < n → f i = f' i) : ArrI w g T n f' := ⟨by rw [h.out, arrV_congr n f f' hf]⟩
def isZ : Value → Bool
  | .int .i64 (.ofNat 0) => true
  | _ => false
def chkZ : List Value → Nat → Bool
  | [], 0 => true
  | v :: l, n + 1 => isZ v && chkZ l n
  | _, _ => false
theorem chkZ_is : ∀ (l : List Value) (n : Nat), chkZ l n = true → l = (List.range n).map (fun _ => Value.int .i64 0) := by
  intro l
  induction l with
  | nil => intro n h; cases n with
    | zero => rfl
    | succ n => simp [chkZ] at h
  | cons v l ih => intro n h; cases n with
    | zero => simp [chkZ] at h
    | succ n =>
      simp only [chkZ, Bool.and_eq_true] at h
      have hv : v = .int .i64 0 := by
        have h1 := h.1
        unfold isZ at h1
        split at h1
        · rfl
        · cases h1
      rw [hv, ih n h.2, List.range_succ_eq_map, List.map_cons, List.map_map]
      rfl
/-- A type's zero value is an array of n zeros. -/
theorem zero_arr {P : Program} {t n : Nat} (h : (P.info? t).map (fun i => (match i.zero with | some (.agg z) => chkZ z.toList n | _ => false) && i.size == n) = some true) :
    ∃ i, P.info? t = some i ∧ i.zero = some (.agg (arrV n (fun _ => 0))) ∧ i.size = n := by
  obtain ⟨i, hi, hx⟩ := Option.map_eq_some_iff.1 h
  rw [Bool.and_eq_true, beq_iff_eq] at hx
  refine ⟨i, hi, ?_, hx.2⟩
  have h1 := hx.1
  split at h1
  · rename_i z hz
    rw [hz]
    have := chkZ_is _ _ h1
    congr 2
    apply Array.ext'
    rw [this]; simp [arrV]
  · cases h1

/-! ### spec_l1In: function 22 -/
def spec_l1In.f (a0 : Int) (a1 : Int) (a2 : Int) : Option (Bool) := if a0 ≥ a1 then (some (decide (a0 ≤ a2))) else (some false)
set_option maxHeartbeats 8000000 in
set_option maxRecDepth 100000 in
theorem spec_l1In.calls (a0 : Int) (a1 : Int) (a2 : Int) (r : Bool) (w : World) (h : spec_l1In.f a0 a1 a2 = some r) :
    Calls Try.prog 22 #[.int .i64 a0, .int .i64 a1, .int .i64 a2] w fun e w' => e = .returned (.bool r) ∧ Drawn0 w w' := by
  have H : (if a0 ≥ a1 then (some (decide (a0 ≤ a2))) else (some false)) = some r := h
  clear h
  by_cases c4 : a0 ≥ a1
  · rw [if_pos c4] at H
    have c4b0 : decide (a1 ≤ a0) = true := decide_eq_true c4
    clear c4
    obtain rfl := Option.some.inj H
    go_enter Try.func22, Try.ntmps22
    go_wp2
    go_ret
    exact ⟨by first | rfl | (simp; done) | (simp [*]; done), by repeat (first | exact Drawn0.refl _ | apply Drawn0.step)⟩
  · rw [if_neg c4] at H
    have c4b0 : decide (a1 ≤ a0) = false := decide_eq_false c4
    clear c4
    obtain rfl := Option.some.inj H
    go_enter Try.func22, Try.ntmps22
    go_wp2
    go_ret
    exact ⟨by first | rfl | (simp; done) | (simp [*]; done), by repeat (first | exact Drawn0.refl _ | apply Drawn0.step)⟩

set_option maxHeartbeats 8000000 in
set_option maxRecDepth 100000 in
theorem spec_l1In.calls0 (a0 : Int) (a1 : Int) (a2 : Int) (r : Bool) (w : World) (h : spec_l1In.f a0 a1 a2 = some r) :
    Calls Try.prog 22 #[.int .i64 a0, .int .i64 a1, .int .i64 a2] w fun e w' => e = .returned (.bool r) ∧ w = w' := by
  have H : (if a0 ≥ a1 then (some (decide (a0 ≤ a2))) else (some false)) = some r := h
  clear h
  by_cases c4 : a0 ≥ a1
  · rw [if_pos c4] at H
    have c4b0 : decide (a1 ≤ a0) = true := decide_eq_true c4
    clear c4
    obtain rfl := Option.some.inj H
    go_enter Try.func22, Try.ntmps22
    go_wp2
    go_ret
    exact ⟨by first | rfl | (simp; done) | (simp [*]; done), by first | rfl | simp⟩
  · rw [if_neg c4] at H
    have c4b0 : decide (a1 ≤ a0) = false := decide_eq_false c4
    clear c4
    obtain rfl := Option.some.inj H
    go_enter Try.func22, Try.ntmps22
    go_wp2
    go_ret
    exact ⟨by first | rfl | (simp; done) | (simp [*]; done), by first | rfl | simp⟩

end Go.Proofs.Yteboofglcnceoaa.PrintA
