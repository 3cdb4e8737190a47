-- written by this session's own driver (wip/gen.py) with the kit's print and contracts of our own
import Derived.Test.YtmcjggjkfkkpbaaPrintA0
import Derived.Test.YtmcjggjkfkkpbaaPrintA6
import Derived.Test.YtmcjggjkfkkpbaaPrintA7
import Derived.Test.YtmcjggjkfkkpbaaPrintA8
namespace Go.Proofs.Ytmcjggjkfkkpbaa.PrintA
open Go.RowKit Go.Proofs.YtmcjggjkfkkpbaaLib Go.Proofs.YtmcjggjkfkkpbaaW.PrintWords Go.Proofs.YtmcjggjkfkkpbaaW.PrintLast Go.Proofs.YtmcjggjkfkkpbaaW.PrintMore
attribute [local go_sem] max2_int min2_int max_two min_two max_three min_three max_four min_four   -- for this text's walks alone
set_option linter.unusedVariables false
set_option linter.unusedSimpArgs false

/-! behind spec_trGood -/
-- LIB Tree
theorem spec_trGood_is : ∀ (n : Nat) (l : List Int) (fr : Int) (k : Nat), l.length ≤ n → n < k → n ≤ 1000 → 0 ≤ fr → fr + l.length ≤ 1000000 → spec_trGood.f k l fr = some (trOk n fr l) := by
  intro n
  induction n with
  | zero =>
    intro l fr k h1 h2 h3 h4 h5
    obtain ⟨k, rfl⟩ : ∃ m, k = m + 1 := ⟨k - 1, by omega⟩
    obtain rfl : l = [] := List.length_eq_zero_iff.1 (by omega)
    simp [spec_trGood.f, trOk]
  | succ n ih =>
    intro l fr k h1 h2 h3 h4 h5
    obtain ⟨k, rfl⟩ : ∃ m, k = m + 1 := ⟨k - 1, by omega⟩
    cases l with
    | nil => simp [spec_trGood.f, trOk]
    | cons x r =>
      simp only [List.length_cons] at h1 h5
      simp only [spec_trGood.f, List.length_cons, rd_cons0]
      rw [if_neg (by omega), if_pos (by omega), spec_l1In_is]
      have e1 : wrap64 (wrap64 (fr + ((r.length + 1 : Nat) : Int)) - 1) = fr + r.length := by unfold wrap64; omega
      rw [e1]
      simp only [Option.bind_some, trOk]
      by_cases hw : (decide (fr ≤ x) && decide (x ≤ fr + (r.length : Int))) = true
      · rw [if_pos hw, hw]
        simp only [Bool.and_eq_true, decide_eq_true_eq] at hw
        have e2 : spec_trSplit.f (x :: r) fr = some (x - fr) := by
          unfold spec_trSplit.f
          rw [if_pos (by simp only [List.length_cons]; omega), rd_cons0]
          congr 1; unfold wrap64; omega
        have e3 : wrap64 (1 + (x - fr)) = 1 + (x - fr) := by unfold wrap64; omega
        have e4 : (1 + (x - fr)).toNat = (x - fr).toNat + 1 := by omega
        rw [e2]
        simp only [Option.bind_some]
        rw [e3, if_pos (by omega), if_pos (by omega), e4, List.take_succ_cons, List.drop_succ_cons, List.drop_zero, List.drop_succ_cons]
        rw [ih (r.take (x - fr).toNat) fr k (by rw [List.length_take]; omega) (by omega) (by omega) h4 (by rw [List.length_take]; omega)]
        have e5 : wrap64 (x + 1) = x + 1 := by unfold wrap64; omega
        simp only [Option.bind_some, Bool.true_and, e5]
        by_cases hg : trOk n fr (r.take (x - fr).toNat) = true
        · rw [if_pos hg, if_pos (by omega), hg, ih (r.drop (x - fr).toNat) (x + 1) k (by rw [List.length_drop]; omega) (by omega) (by omega) (by omega) (by rw [List.length_drop]; omega)]
          rfl
        · rw [if_neg hg, Bool.eq_false_iff.mpr hg]; rfl
      · rw [if_neg hw, Bool.eq_false_iff.mpr hw]; rfl

/-! ### spec_trIs: function 30 -/
def spec_trIs.f (k : Nat) (l0 : List Int) : Option (Bool) := if (l0.length : Int) ≤ 30 then ((spec_trGood.f k l0 1).bind fun t254 => (some t254)) else (some false)
theorem spec_trIs.mono : ∀ a0 k, LeO (spec_trIs.f k a0) (spec_trIs.f (k + 1) a0) := by
  intro a0 k
  unfold spec_trIs.f
  repeat' first
      | (with_reducible exact spec_trGood.mono _ _ _)
      | (with_reducible exact LeO.refl _)
      | (with_reducible exact LeO.none _)
      | (with_reducible refine LeO.ite ?_ ?_)
      | (with_reducible refine LeO.bind ?_ (fun _ => ?_))
      | exact spec_trGood.mono _ _ _
      | exact LeO.none _
      | refine LeO.ite ?_ ?_
      | refine LeO.bind ?_ (fun _ => ?_)
set_option maxHeartbeats 8000000 in
set_option maxRecDepth 100000 in
theorem spec_trIs.calls (k : Nat) (A0 : Option Addr) (c0 : Nat) (l0 : List Int) (r : Bool) (w : World) (hr0 : Kd.C (Kd.int .i64) w A0 l0.length l0) (hc0 : l0.length ≤ c0) (h : spec_trIs.f k l0 = some r) :
    Calls Try.prog 30 #[.slice A0 l0.length c0] w fun e w' => e = .returned (.bool r) ∧ Below w.heap.size w w' := by
  have HR0 := Aside0.mk hr0
  have HC0 := Aside0.mk hc0
  clear hr0 hc0
  have HB := Aside0.mk (Below.refl w.heap.size w)
  have H : (if (l0.length : Int) ≤ 30 then ((spec_trGood.f k l0 1).bind fun t254 => (some t254)) else (some false)) = some r := h
  clear h
  by_cases c2 : (l0.length : Int) ≤ 30
  · rw [if_pos c2] at H
    have c2b0 : decide ((l0.length : Int) ≤ 30) = true := decide_eq_true c2
    have c2b1 : decide (l0.length ≤ 30) = true := decide_eq_true (by omega)
    clear c2
    replace H := Option.bind_eq_some_iff.mp H
    obtain ⟨t254, A30, H⟩ := H
    replace H : (some t254) = some r := H
    have A3 := Aside0.mk A30
    clear A30
    obtain rfl := Option.some.inj H
    go_enter Try.func30, Try.ntmps30
    go_wp2_with (first | (go_at_call 48; (with_reducible refine (spec_trGood.calls k _ _ l0 1 t254 _ ?side1 ?side2 A3.out).mono ?_); (case side1 => repeat (first | exact HR0.out | (with_reducible refine Kd.C_alloc ?_ _) | (with_reducible refine Kd.C_drewN ?_ _) | (with_reducible refine Kd.C_drew ?_))); (case side2 => exact HC0.out); rintro e w4 ⟨rfl, hb⟩; have n0_ := Aside0.mk (below_step (by repeat (first | (with_reducible first | exact HB.out | apply below_alloc | apply pw_below_drewN | apply below_drew1) | exact HB.out)) hb); clear HB; have HB := n0_; clear n0_; (try clear hb); (try clear hb2); (try clear hk); (try clear hi)))
    go_ret
    exact ⟨by first | rfl | (simp [errW_none, errW_some] <;> rfl) | (simp [*, errW_none, errW_some] <;> rfl), by repeat (first | (with_reducible first | exact HB.out | apply below_alloc | apply pw_below_drewN | apply below_drew1) | exact HB.out)⟩
  · rw [if_neg c2] at H
    have c2b0 : decide ((l0.length : Int) ≤ 30) = false := decide_eq_false c2
    have c2b1 : decide (l0.length ≤ 30) = false := decide_eq_false (by omega)
    clear c2
    obtain rfl := Option.some.inj H
    go_enter Try.func30, Try.ntmps30
    go_wp2
    go_ret
    exact ⟨by first | rfl | (simp [errW_none, errW_some] <;> rfl) | (simp [*, errW_none, errW_some] <;> rfl), by repeat (first | (with_reducible first | exact HB.out | apply below_alloc | apply pw_below_drewN | apply below_drew1) | exact HB.out)⟩

/-! behind spec_trIs -/
theorem spec_trIs_is (l : List Int) (k : Nat) (hk : 30 < k) : spec_trIs.f k l = some (decide (l.length ≤ 30) && trOk 30 1 l) := by
  unfold spec_trIs.f
  by_cases h : l.length ≤ 30
  · rw [if_pos (by omega), spec_trGood_is 30 l 1 k h hk (by omega) (by omega) (by omega), decide_eq_true h]; rfl
  · rw [if_neg (by omega), decide_eq_false h]; rfl

/-! ### spec_l1Most: function 49 -/
def spec_l1Most.f (a0 : Int) (a1 : Int) : Option (Int) := if a0 > a1 then (some a0) else (some a1)
set_option maxHeartbeats 8000000 in
set_option maxRecDepth 100000 in
theorem spec_l1Most.calls (a0 : Int) (a1 : Int) (r : Int) (w : World) (h : spec_l1Most.f a0 a1 = some r) :
    Calls Try.prog 49 #[.int .i64 a0, .int .i64 a1] w fun e w' => e = .returned (.int .i64 r) ∧ Drawn0 w w' := by
  have H : (if a0 > a1 then (some a0) else (some a1)) = some r := h
  clear h
  by_cases c3 : a0 > a1
  · rw [if_pos c3] at H
    have c3b0 : decide (a1 < a0) = true := decide_eq_true c3
    clear c3
    obtain rfl := Option.some.inj H
    go_enter Try.func49, Try.ntmps49
    go_wp2
    go_ret
    exact ⟨by first | rfl | (simp; done) | (simp [*]; done), by repeat (first | exact Drawn0.refl _ | apply Drawn0.step)⟩
  · rw [if_neg c3] at H
    have c3b0 : decide (a1 < a0) = false := decide_eq_false c3
    clear c3
    obtain rfl := Option.some.inj H
    go_enter Try.func49, Try.ntmps49
    go_wp2
    go_ret
    exact ⟨by first | rfl | (simp; done) | (simp [*]; done), by repeat (first | exact Drawn0.refl _ | apply Drawn0.step)⟩

set_option maxHeartbeats 8000000 in
set_option maxRecDepth 100000 in
theorem spec_l1Most.calls0 (a0 : Int) (a1 : Int) (r : Int) (w : World) (h : spec_l1Most.f a0 a1 = some r) :
    Calls Try.prog 49 #[.int .i64 a0, .int .i64 a1] w fun e w' => e = .returned (.int .i64 r) ∧ w = w' := by
  have H : (if a0 > a1 then (some a0) else (some a1)) = some r := h
  clear h
  by_cases c3 : a0 > a1
  · rw [if_pos c3] at H
    have c3b0 : decide (a1 < a0) = true := decide_eq_true c3
    clear c3
    obtain rfl := Option.some.inj H
    go_enter Try.func49, Try.ntmps49
    go_wp2
    go_ret
    exact ⟨by first | rfl | (simp; done) | (simp [*]; done), by first | rfl | simp⟩
  · rw [if_neg c3] at H
    have c3b0 : decide (a1 < a0) = false := decide_eq_false c3
    clear c3
    obtain rfl := Option.some.inj H
    go_enter Try.func49, Try.ntmps49
    go_wp2
    go_ret
    exact ⟨by first | rfl | (simp; done) | (simp [*]; done), by first | rfl | simp⟩

/-! behind spec_l1Most -/
theorem spec_l1Most_is (a b : Int) : spec_l1Most.f a b = some (max a b) := by
  unfold spec_l1Most.f
  split <;> (congr 1; omega)

/-! ### spec_trTests: function 31 -/
def spec_trTests.f : Nat → List Int → Int → Option (Int × Int × Int)
  | 0, _, _ => none
  | k + 1, l0, a1 => if (l0.length : Int) = 0 then (some (0, 0, 0)) else ((spec_trSplit.f l0 a1).bind fun t255 => (if 1 ≤ (wrap64 (1 + t255)) then (if (wrap64 (1 + t255)) ≤ (l0.length : Int) then ((spec_trTests.f k ((l0.take ((wrap64 (1 + t255)) : Int).toNat).drop 1) a1).bind fun bt257 => (if 0 ≤ (wrap64 (1 + t255)) then (if 0 < (l0.length : Int) then ((spec_trTests.f k (l0.drop ((wrap64 (1 + t255)) : Int).toNat) (wrap64 ((rd l0 0) + 1))).bind fun bt262 => ((spec_l1Most.f bt257.1 bt262.1).bind fun t265 => ((spec_l1Most.f (wrap64 (bt257.2.1 + 1)) bt262.2.1).bind fun t266 => (some (wrap64 (1 + t265), t266, wrap64 ((wrap64 ((wrap64 (bt257.2.2 + bt262.2.2)) + (l0.length : Int))) + 1)))))) else (none)) else (none))) else (none)) else (none)))
theorem spec_trTests.mono_l : ∀ k, (∀ y0 y1, LeO (spec_trTests.f k y0 y1) (spec_trTests.f (k + 1) y0 y1))
  | 0 => fun _ _ r h => by simp [spec_trTests.f] at h
  | k + 1 => by
    have ih0 := spec_trTests.mono_l k
    · intro y0 y1
      unfold spec_trTests.f
      repeat' first
      | (with_reducible exact ih0 _ _)
      | (with_reducible exact LeO.refl _)
      | (with_reducible exact LeO.none _)
      | (with_reducible refine LeO.ite ?_ ?_)
      | (with_reducible refine LeO.bind ?_ (fun _ => ?_))
      | exact ih0 _ _
      | exact LeO.none _
      | refine LeO.ite ?_ ?_
      | refine LeO.bind ?_ (fun _ => ?_)
theorem spec_trTests.mono : ∀ a0 a1 k, LeO (spec_trTests.f k a0 a1) (spec_trTests.f (k + 1) a0 a1) := by
  intro a0 a1 k
  have ih0 := spec_trTests.mono_l k
  exact ih0 a0 a1
def spec_trTests.T5 : Bool × List (List Nat × List Nat) := (true, [([], []), ([], []), ([1], [1]), ([0, 2], [0, 2]), ([], []), ([4], [4]), ([5], [5]), ([6], [6]), ([3, 7], [3, 7]), ([8], [8]), ([9], [9]), ([9], [9]), ([9], [9]), ([10, 8, 0, 1, 2, 3, 4, 5, 6, 7, 8, 9, 10], [10]), ([11, 13, 0, 1, 2, 3, 4, 5, 6, 7, 8, 9, 10, 11, 13], [11]), ([12, 14, 0, 1, 2, 3, 4, 5, 6, 7, 8, 9, 10, 11, 12, 13, 14], [12])])
def spec_trTests.B5 : List Nat := [0, 0, 2, 7, 0, 16, 48, 112, 255, 511, 1023, 1023, 1023, 2047, 12287, 32767]
theorem spec_trTests.tab5 : rtab .any (opsOf Try.f31 5) = spec_trTests.T5 := by kernel_rfl
theorem spec_trTests.bits5 : waitsOk spec_trTests.T5.2 spec_trTests.B5 = true := by kernel_rfl
set_option maxHeartbeats 8000000 in
set_option maxRecDepth 100000 in
theorem spec_trTests.calls (k : Nat) : ∀ (A0 : Option Addr) (c0 : Nat) (l0 : List Int) (a1 : Int) (r1 : Int) (r2 : Int) (r3 : Int) (w : World) (hr0 : Kd.C (Kd.int .i64) w A0 l0.length l0) (hc0 : l0.length ≤ c0) (h : spec_trTests.f k l0 a1 = some (r1, r2, r3)),
    Calls Try.prog 31 #[.slice A0 l0.length c0, .int .i64 a1] w fun e w' => e = .returned (.tuple #[.int .i64 r1, .int .i64 r2, .int .i64 r3]) ∧ Below w.heap.size w w' := by
  induction k using Nat.strongRecOn with
  | _ k ih =>
  intro A0 c0 l0 a1 r1 r2 r3 w hr0 hc0 h
  cases k with
  | zero => exact absurd h (by simp [spec_trTests.f])
  | succ k =>
  simp only [spec_trTests.f] at h
  have HR0 := Aside0.mk hr0
  have HC0 := Aside0.mk hc0
  clear hr0 hc0
  have HB := Aside0.mk (Below.refl w.heap.size w)
  have H : (if (l0.length : Int) = 0 then (some (0, 0, 0)) else ((spec_trSplit.f l0 a1).bind fun t255 => (if 1 ≤ (wrap64 (1 + t255)) then (if (wrap64 (1 + t255)) ≤ (l0.length : Int) then ((spec_trTests.f k ((l0.take ((wrap64 (1 + t255)) : Int).toNat).drop 1) a1).bind fun bt257 => (if 0 ≤ (wrap64 (1 + t255)) then (if 0 < (l0.length : Int) then ((spec_trTests.f k (l0.drop ((wrap64 (1 + t255)) : Int).toNat) (wrap64 ((rd l0 0) + 1))).bind fun bt262 => ((spec_l1Most.f bt257.1 bt262.1).bind fun t265 => ((spec_l1Most.f (wrap64 (bt257.2.1 + 1)) bt262.2.1).bind fun t266 => (some (wrap64 (1 + t265), t266, wrap64 ((wrap64 ((wrap64 (bt257.2.2 + bt262.2.2)) + (l0.length : Int))) + 1)))))) else (none)) else (none))) else (none)) else (none)))) = some (r1, r2, r3) := h
  clear h
  by_cases c3 : (l0.length : Int) = 0
  · rw [if_pos c3] at H
    have c3b0 : ((l0.length : Int) == 0) = true := beq_iff_eq.mpr c3
    have c3b1 : ((l0.length : Int) != 0) = false := bne_eq_false_iff_eq.mpr c3
    clear c3
    simp only [Option.some.injEq, Prod.mk.injEq] at H
    obtain ⟨rfl, rfl, rfl⟩ := H
    go_enter Try.func31, Try.ntmps31
    go_wp2
    go_ret3
    exact ⟨by first | rfl | (simp [errW_none, errW_some] <;> rfl) | (simp [*, errW_none, errW_some] <;> rfl), by repeat (first | (with_reducible first | exact HB.out | apply below_alloc | apply pw_below_drewN | apply below_drew1) | exact HB.out)⟩
  · rw [if_neg c3] at H
    have c3b0 : ((l0.length : Int) == 0) = false := beq_eq_false_iff_ne.mpr c3
    have c3b1 : ((l0.length : Int) != 0) = true := bne_iff_ne.mpr c3
    have c3b2 : ¬ (l0 = []) := fun h_ => c3 (by rw [h_]; rfl)
    replace H := Option.bind_eq_some_iff.mp H
    obtain ⟨t255, A40, H⟩ := H
    replace H : (if 1 ≤ (wrap64 (1 + t255)) then (if (wrap64 (1 + t255)) ≤ (l0.length : Int) then ((spec_trTests.f k ((l0.take ((wrap64 (1 + t255)) : Int).toNat).drop 1) a1).bind fun bt257 => (if 0 ≤ (wrap64 (1 + t255)) then (if 0 < (l0.length : Int) then ((spec_trTests.f k (l0.drop ((wrap64 (1 + t255)) : Int).toNat) (wrap64 ((rd l0 0) + 1))).bind fun bt262 => ((spec_l1Most.f bt257.1 bt262.1).bind fun t265 => ((spec_l1Most.f (wrap64 (bt257.2.1 + 1)) bt262.2.1).bind fun t266 => (some (wrap64 (1 + t265), t266, wrap64 ((wrap64 ((wrap64 (bt257.2.2 + bt262.2.2)) + (l0.length : Int))) + 1)))))) else (none)) else (none))) else (none)) else (none)) = some (r1, r2, r3) := H
    have A4 := Aside0.mk A40
    clear A40
    by_cases c5 : 1 ≤ (wrap64 (1 + t255))
    · rw [if_pos c5] at H
      have c5b0 := eq_true c5
      have c5b1 : decide (1 ≤ (wrap64 (1 + t255))) = true := decide_eq_true c5
      by_cases c6 : (wrap64 (1 + t255)) ≤ (l0.length : Int)
      · rw [if_pos c6] at H
        have c6b0 := eq_true c6
        have c6b1 : decide ((wrap64 (1 + t255)) ≤ (l0.length : Int)) = true := decide_eq_true c6
        replace H := Option.bind_eq_some_iff.mp H
        obtain ⟨⟨t257, t258, t259⟩, A70, H⟩ := H
        replace H : (if 0 ≤ (wrap64 (1 + t255)) then (if 0 < (l0.length : Int) then ((spec_trTests.f k (l0.drop ((wrap64 (1 + t255)) : Int).toNat) (wrap64 ((rd l0 0) + 1))).bind fun bt262 => ((spec_l1Most.f t257 bt262.1).bind fun t265 => ((spec_l1Most.f (wrap64 (t258 + 1)) bt262.2.1).bind fun t266 => (some (wrap64 (1 + t265), t266, wrap64 ((wrap64 ((wrap64 (t259 + bt262.2.2)) + (l0.length : Int))) + 1)))))) else (none)) else (none)) = some (r1, r2, r3) := H
        have A7 := Aside0.mk A70
        clear A70
        obtain ⟨ji8, hji8⟩ : ∃ j_ : Int, (wrap64 (1 + t255)) = j_ := ⟨_, rfl⟩
        replace H : (if 0 ≤ (ji8) then (if 0 < (l0.length : Int) then ((spec_trTests.f k (l0.drop ((ji8) : Int).toNat) (wrap64 ((rd l0 0) + 1))).bind fun bt262 => ((spec_l1Most.f t257 bt262.1).bind fun t265 => ((spec_l1Most.f (wrap64 (t258 + 1)) bt262.2.1).bind fun t266 => (some (wrap64 (1 + t265), t266, wrap64 ((wrap64 ((wrap64 (t259 + bt262.2.2)) + (l0.length : Int))) + 1)))))) else (none)) else (none)) = some (r1, r2, r3) := by first | (rw [hji8] at H; exact H) | (simp only [hji8] at H ⊢; exact H)
        (try rw [hji8] at c5b0)
        (try rw [hji8] at c5b1)
        (try rw [hji8] at c5)
        (try rw [hji8] at c6b0)
        (try rw [hji8] at c6b1)
        (try rw [hji8] at c6)
        (try rw [hji8] at A4)
        (try rw [hji8] at A7)
        have hji8w : (IntKind.i64.wrap (1 + t255)) = ji8 := (i64_w _).trans hji8
        by_cases c9 : 0 ≤ (ji8)
        · rw [if_pos c9] at H
          have c9b0 := eq_true c9
          have c9b1 : decide (0 ≤ (ji8)) = true := decide_eq_true c9
          clear c9
          have c10b0 := eq_true (of_decide_eq_true (by first | (with_reducible assumption) | assumption) : (ji8) ≤ (l0.length : Int))
          by_cases c11 : 0 < (l0.length : Int)
          · rw [if_pos c11] at H
            have c11b0 : decide (0 < (l0.length : Int)) = true := decide_eq_true c11
            have c11b1 : decide (0 < l0.length) = true := decide_eq_true (by omega)
            clear c11
            replace H := Option.bind_eq_some_iff.mp H
            obtain ⟨⟨t262, t263, t264⟩, A120, H⟩ := H
            replace H : ((spec_l1Most.f t257 t262).bind fun t265 => ((spec_l1Most.f (wrap64 (t258 + 1)) t263).bind fun t266 => (some (wrap64 (1 + t265), t266, wrap64 ((wrap64 ((wrap64 (t259 + t264)) + (l0.length : Int))) + 1))))) = some (r1, r2, r3) := H
            have A12 := Aside0.mk A120
            clear A120
            replace H := Option.bind_eq_some_iff.mp H
            obtain ⟨t265, A130, H⟩ := H
            replace H : ((spec_l1Most.f (wrap64 (t258 + 1)) t263).bind fun t266 => (some (wrap64 (1 + t265), t266, wrap64 ((wrap64 ((wrap64 (t259 + t264)) + (l0.length : Int))) + 1)))) = some (r1, r2, r3) := H
            have A13 := Aside0.mk A130
            clear A130
            replace H := Option.bind_eq_some_iff.mp H
            obtain ⟨t266, A140, H⟩ := H
            replace H : (some (wrap64 (1 + t265), t266, wrap64 ((wrap64 ((wrap64 (t259 + t264)) + (l0.length : Int))) + 1))) = some (r1, r2, r3) := H
            have A14 := Aside0.mk A140
            clear A140
            simp only [Option.some.injEq, Prod.mk.injEq] at H
            obtain ⟨rfl, rfl, rfl⟩ := H
            go_enter Try.func31, Try.ntmps31
            try go_wp2_with (first | ((with_reducible refine gate_callee (f := 34) rfl ?_); refine goesL_ (some 19) rfl rfl Try.func34 (by kernel_rfl) rfl #[.slice A0 l0.length c0, .int .i64 a1] rfl (by (try simp only [List.map_toArray, List.map_cons, List.map_nil]); first | done | rfl | (simp only [List.length_drop, List.length_take]; rfl)) ?_; (with_reducible refine (spec_trSplit.calls0 _ _ l0 a1 t255 _ ?side1 ?side2 A4.out).mono ?_); (case side1 => repeat (first | exact HR0.out | (with_reducible refine Kd.C_alloc ?_ _) | (with_reducible refine Kd.C_drewN ?_ _) | (with_reducible refine Kd.C_drew ?_))); (case side2 => exact HC0.out); rintro e w' ⟨rfl, rfl⟩; refine ⟨_, rfl, ?_⟩; obtain ⟨i015, hi015, _, hsz15, _⟩ := info_parts info3; obtain ⟨A15, hcut15, hA15, hC15⟩ := print_mid_of (P := Try.prog) (Value.int .i64) 0 24 3 .i64 .i64 Try.underlying24 hi015 hsz15 A0 c0 l0 1 (ji8) (by omega) (by first | omega | exact of_decide_eq_true (by first | (with_reducible assumption) | assumption)) (of_decide_eq_true (by first | (with_reducible assumption) | assumption)) HC0.out; have HR256 := Aside0.mk (Kd.C_of_reads (h1 := fun _ => rfl) (hA15 _ (Kd.reads_of_C HR0.out))); have HC256 := Aside0.mk hC15; clear hA15 hC15 hi015 hsz15) | ((with_reducible refine gate_callee (f := 31) rfl ?_); refine goesL_ (some 26) rfl rfl Try.func31 (by kernel_rfl) rfl #[.slice A15 ((l0.take ((ji8) : Int).toNat).drop 1).length (c0 - 1), .int .i64 a1] rfl (by (try simp only [List.map_toArray, List.map_cons, List.map_nil]); first | done | (rw [show ((l0.take ((ji8) : Int).toNat).drop 1).length = ((ji8).toNat - 1) from (by rw [List.length_drop, List.length_take]; have h_ : ((ji8) : Int) ≤ (l0.length : Int) := of_decide_eq_true (by first | (with_reducible assumption) | assumption); omega)] <;> rfl) | (simp only [hji8]; rfl) | rfl | (simp only [List.length_drop, List.length_take]; rfl)) ?_; (with_reducible refine (ih k (by omega) _ _ ((l0.take ((ji8) : Int).toNat).drop 1) a1 t257 t258 t259 _ ?side1 ?side2 A7.out).mono ?_); (case side1 => repeat (first | exact HR256.out | (with_reducible refine Kd.C_alloc ?_ _) | (with_reducible refine Kd.C_drewN ?_ _) | (with_reducible refine Kd.C_drew ?_))); (case side2 => exact HC256.out); rintro e w16 ⟨rfl, hb⟩; refine ⟨_, rfl, ?_⟩; have n0_ := Aside0.mk (below_step (by repeat (first | (with_reducible first | exact HB.out | apply below_alloc | apply pw_below_drewN | apply below_drew1) | exact HB.out)) hb); clear HB; have HB := n0_; clear n0_; (try clear hb); (try clear hb2); (try clear hk); (try clear hi)))
            have n0_ := Aside0.mk (below_drew1 HB.out)
            clear HB
            have HB := n0_
            clear n0_
            obtain ⟨i018, hi018, _, hsz18, _⟩ := info_parts info3
            obtain ⟨A18, hcut18, hA18, hC18⟩ := print_drop_of (P := Try.prog) (Value.int .i64) 0 24 3 .i64 Try.underlying24 hi018 hsz18 A0 c0 l0 (ji8) (of_decide_eq_true (by first | (with_reducible assumption) | assumption)) (of_decide_eq_true (by first | (with_reducible assumption) | assumption)) HC0.out
            have HR260 := Aside0.mk (Kd.C_of_reads (h1 := fun _ => rfl) (hA18 _ (Kd.reads_of_C HR0.out)))
            have HC260 := Aside0.mk hC18
            clear hA18 hC18 hi018 hsz18
            have p261 : 0 ≤ (0 : Int) := (by omega)
            have q261 : 0 < (l0.length : Int) := of_decide_eq_true (by first | (with_reducible assumption) | assumption)
            obtain ⟨ad261, e261, hx261_0⟩ := Kd.at_int HR0.out 0 p261 q261
            have hw261_0 := hx261_0
            (try rw [show ((0 : Int)).toNat = 0 from rfl] at hw261_0)
            (try rw [show 0 * 1 = 0 from rfl] at hw261_0)
            (try rw [Addr.add_zero'] at hw261_0)
            cases e261
            have qi261 : (0 < l0.length) = True := eq_true (by omega)
            (try rw [show ((0 : Int)).toNat = 0 from rfl] at hx261_0)
            (try rw [Addr.add_zero'] at hx261_0)
            replace hx261_0 := (HB.out.cell (World.block_lt_of_cell? w _ hx261_0)).trans hx261_0
            replace p261 := eq_true p261
            replace q261 := eq_true q261
            refine start_ (n := 16) (S := fun w' => w'.cell? ad261 = some (.int .i64 (rd l0 0))) (ds := []) #[false, false, false, false, false, false, false, false, false, false, false, false, false, false, false, false] (by kernel_rfl) rfl rfl (((HB.out.cell (World.block_lt_of_cell? w _ hw261_0)).trans hw261_0)) (fun hHeld => ?_); refine with_tabW spec_trTests.tab5 spec_trTests.bits5 (fun HT_ HW_ => ?_)
            generalize w16.drew = w17 at HB HR260 hx261_0 hHeld ⊢
            refine pure_ (i := 0) (N := some 31) (v := ?_) (a' := ?_) #[true, false, false, false, false, false, false, false, false, false, false, false, false, false, false, false] rfl rfl (any_of HT_.out (by kernel_rfl)) (fun _ _ _ h => h) (Or.inl ⟨by rfl, ?_⟩) ?_ ?_
            rotate_left
            · intro w'
              go_simp
              with_reducible rfl
            rotate_left
            · simp only [Act.put, List.setIfInBounds_toArray, List.set_cons_zero, List.set_cons_succ, i64_w, i32_w]
              rfl
            refine pure_ (i := 1) (N := some 32) (v := ?_) (a' := ?_) #[true, true, false, false, false, false, false, false, false, false, false, false, false, false, false, false] rfl rfl (any_of HT_.out (by kernel_rfl)) (fun _ _ _ h => h) (Or.inl ⟨by rfl, ?_⟩) ?_ ?_
            rotate_left
            · intro w'
              go_simp
              with_reducible rfl
            rotate_left
            · simp only [Act.put, List.setIfInBounds_toArray, List.set_cons_zero, List.set_cons_succ, i64_w, i32_w]
              rfl
            refine pure_ (i := 2) (N := some 33) (v := ?_) (a' := ?_) #[true, true, true, false, false, false, false, false, false, false, false, false, false, false, false, false] rfl rfl (any_of HT_.out (by kernel_rfl)) (fun _ _ _ h => h) (Or.inl ⟨by rfl, ?_⟩) ?_ ?_
            rotate_left
            · intro w'
              go_simp
              with_reducible rfl
            rotate_left
            · simp only [Act.put, List.setIfInBounds_toArray, List.set_cons_zero, List.set_cons_succ, i64_w, i32_w]
              rfl
            refine pure_ (i := 3) (N := some 34) (v := ?_) (a' := ?_) #[true, true, true, true, false, false, false, false, false, false, false, false, false, false, false, false] rfl rfl (any_of HT_.out (by kernel_rfl)) (fun _ _ _ h => h) (Or.inl ⟨by rfl, ?_⟩) ?_ ?_
            rotate_left
            · intro w'
              go_simp
              with_reducible rfl
            rotate_left
            · simp only [Act.put, List.setIfInBounds_toArray, List.set_cons_zero, List.set_cons_succ, i64_w, i32_w]
              rfl
            refine pure_ (i := 4) (N := some 35) (v := ?_) (a' := ?_) #[true, true, true, true, true, false, false, false, false, false, false, false, false, false, false, false] rfl rfl (any_of HT_.out (by kernel_rfl)) (fun _ _ _ h => h) (Or.inl ⟨by rfl, ?_⟩) ?_ ?_
            rotate_left
            · intro w'
              go_simp
              with_reducible rfl
            rotate_left
            · simp only [Act.put, List.setIfInBounds_toArray, List.set_cons_zero, List.set_cons_succ, i64_w, i32_w]
              rfl
            refine pure_ (i := 5) (N := some 36) (v := ?_) (a' := ?_) #[true, true, true, true, true, true, false, false, false, false, false, false, false, false, false, false] rfl rfl (any_of HT_.out (by kernel_rfl)) (fun _ _ _ h => h) (Or.inl ⟨by rfl, ?_⟩) ?_ ?_
            rotate_left
            · intro w'
              go_simp
              with_reducible rfl
            rotate_left
            · simp only [Act.put, List.setIfInBounds_toArray, List.set_cons_zero, List.set_cons_succ, i64_w, i32_w]
              rfl
            refine take_ (i := 6) (N := some 37) (v := ?_) (a' := ?_) #[true, true, true, true, true, true, true, false, false, false, false, false, false, false, false, false] rfl rfl (take_ofW HT_.out HW_.out (by kernel_rfl)) (fun _ _ _ h => h) (Or.inl ⟨by rfl, ?_⟩) hHeld ?_ ?_
            rotate_left
            · intro w' s0
              go_simp
              with_reducible rfl
            rotate_left
            · simp only [Act.put, List.setIfInBounds_toArray, List.set_cons_zero, List.set_cons_succ, i64_w, i32_w]
              rfl
            refine pure_ (i := 7) (N := some 38) (v := ?_) (a' := ?_) #[true, true, true, true, true, true, true, true, false, false, false, false, false, false, false, false] rfl rfl (any_of HT_.out (by kernel_rfl)) (fun _ _ _ h => h) (Or.inl ⟨by rfl, ?_⟩) ?_ ?_
            rotate_left
            · intro w'
              go_simp
              with_reducible rfl
            rotate_left
            · simp only [Act.put, List.setIfInBounds_toArray, List.set_cons_zero, List.set_cons_succ, i64_w, i32_w]
              rfl
            refine one_ (i := 8) (N := some 39) #[true, true, true, true, true, true, true, true, true, false, false, false, false, false, false, false] rfl rfl (one_of HT_.out (by kernel_rfl)) (by decide) (fun K hK => ?_)
            refine goes_ Try.func31 (by kernel_rfl) rfl #[.slice A18 (l0.drop ((ji8) : Int).toNat).length (c0 - (ji8).toNat), .int .i64 (wrap64 ((rd l0 0) + 1))] (by rfl) rfl rfl (by (try simp only [List.map_toArray, List.map_cons, List.map_nil]); first | done | (rw [show (l0.drop ((ji8) : Int).toNat).length = (l0.length - (ji8).toNat) from List.length_drop] <;> rfl) | (simp only [hji8]; rfl) | rfl | (simp only [List.length_drop, List.length_take]; rfl)) ?_
            with_reducible refine (ih k (by omega) _ _ (l0.drop ((ji8) : Int).toNat) (wrap64 ((rd l0 0) + 1)) t262 t263 t264 _ ?side1 ?side2 A12.out).mono ?_
            (case side1 => repeat (first | exact HR260.out | exact (Kd.C_below HR260.out HB.out) | (with_reducible refine Kd.C_alloc ?_ _) | (with_reducible refine Kd.C_drewN ?_ _) | (with_reducible refine Kd.C_drew ?_)))
            (case side2 => exact HC260.out)
            rintro e w19 ⟨rfl, hb⟩
            refine ⟨_, rfl, ?_⟩
            have n0_ := Aside0.mk (below_step (by repeat (first | (with_reducible first | exact HB.out | apply below_alloc | apply pw_below_drewN | apply below_drew1) | exact HB.out)) hb)
            clear HB
            have HB := n0_
            clear n0_
            (try clear hb)
            (try clear hb2)
            (try clear hk)
            (try clear hi)
            refine hK.out _ _ (((HB.out.cell (World.block_lt_of_cell? w _ hw261_0)).trans hw261_0)) (fun hHeld => ?_)
            clear hK K
            refine norm_ (a' := ?_) ?_ ?_
            rotate_left
            · show Act.put _ (some 39) _ = _
              simp only [Act.put, List.setIfInBounds_toArray, List.set_cons_zero, List.set_cons_succ, i64_w, i32_w]
              rfl
            refine pure_ (i := 9) (N := some 30) (v := ?_) (a' := ?_) #[true, true, true, true, true, true, true, true, true, true, false, false, false, false, false, false] rfl rfl (any_of HT_.out (by kernel_rfl)) (fun _ _ _ h => h) (Or.inl ⟨by rfl, ?_⟩) ?_ ?_
            rotate_left
            · intro w'
              go_simp
              with_reducible rfl
            rotate_left
            · simp only [Act.put, List.setIfInBounds_toArray, List.set_cons_zero, List.set_cons_succ, i64_w, i32_w]
              rfl
            refine pure_ (i := 10) (N := some 40) (v := ?_) (a' := ?_) #[true, true, true, true, true, true, true, true, true, true, true, false, false, false, false, false] rfl rfl (any_of HT_.out (by kernel_rfl)) (fun _ _ _ h => h) (Or.inl ⟨by rfl, ?_⟩) ?_ ?_
            rotate_left
            · intro w'
              go_simp
              with_reducible rfl
            rotate_left
            · simp only [Act.put, List.setIfInBounds_toArray, List.set_cons_zero, List.set_cons_succ, i64_w, i32_w]
              rfl
            refine pure_ (i := 11) (N := some 41) (v := ?_) (a' := ?_) #[true, true, true, true, true, true, true, true, true, true, true, true, false, false, false, false] rfl rfl (any_of HT_.out (by kernel_rfl)) (fun _ _ _ h => h) (Or.inl ⟨by rfl, ?_⟩) ?_ ?_
            rotate_left
            · intro w'
              go_simp
              with_reducible rfl
            rotate_left
            · simp only [Act.put, List.setIfInBounds_toArray, List.set_cons_zero, List.set_cons_succ, i64_w, i32_w]
              rfl
            refine pure_ (i := 12) (N := some 42) (v := ?_) (a' := ?_) #[true, true, true, true, true, true, true, true, true, true, true, true, true, false, false, false] rfl rfl (any_of HT_.out (by kernel_rfl)) (fun _ _ _ h => h) (Or.inl ⟨by rfl, ?_⟩) ?_ ?_
            rotate_left
            · intro w'
              go_simp
              with_reducible rfl
            rotate_left
            · simp only [Act.put, List.setIfInBounds_toArray, List.set_cons_zero, List.set_cons_succ, i64_w, i32_w]
              rfl
            refine pure_ (i := 13) (N := some 11) (v := ?_) (a' := ?_) #[true, true, true, true, true, true, true, true, true, true, true, true, true, true, false, false] rfl rfl (any_of HT_.out (by kernel_rfl)) (fun _ _ _ h => h) (Or.inl ⟨by rfl, ?_⟩) ?_ ?_
            rotate_left
            · intro w'
              go_simp
              with_reducible rfl
            rotate_left
            · simp only [Act.put, List.setIfInBounds_toArray, List.set_cons_zero, List.set_cons_succ, i64_w, i32_w]
              rfl
            refine pure_ (i := 14) (N := some 12) (v := ?_) (a' := ?_) #[true, true, true, true, true, true, true, true, true, true, true, true, true, true, true, false] rfl rfl (any_of HT_.out (by kernel_rfl)) (fun _ _ _ h => h) (Or.inl ⟨by rfl, ?_⟩) ?_ ?_
            rotate_left
            · intro w'
              go_simp
              with_reducible rfl
            rotate_left
            · simp only [Act.put, List.setIfInBounds_toArray, List.set_cons_zero, List.set_cons_succ, i64_w, i32_w]
              rfl
            refine pure_ (i := 15) (N := some 13) (v := ?_) (a' := ?_) #[true, true, true, true, true, true, true, true, true, true, true, true, true, true, true, true] rfl rfl (any_of HT_.out (by kernel_rfl)) (fun _ _ _ h => h) (Or.inl ⟨by rfl, ?_⟩) ?_ ?_
            rotate_left
            · intro w'
              go_simp
              with_reducible rfl
            rotate_left
            · simp only [Act.put, List.setIfInBounds_toArray, List.set_cons_zero, List.set_cons_succ, i64_w, i32_w]
              rfl
            refine done_ (done_of HT_.out (by kernel_rfl)) ?_
            try go_wp2_with (first | ((with_reducible refine gate_callee (f := 49) rfl ?_); refine goesL_ (some 45) rfl rfl Try.func49 (by kernel_rfl) rfl #[.int .i64 t257, .int .i64 t262] rfl (by (try simp only [List.map_toArray, List.map_cons, List.map_nil]); first | done | rfl | (simp only [List.length_drop, List.length_take]; rfl)) ?_; (with_reducible refine (spec_l1Most.calls0 t257 t262 t265 _ A13.out).mono ?_); rintro e w' ⟨rfl, rfl⟩; refine ⟨_, rfl, ?_⟩) | ((with_reducible refine gate_callee (f := 49) rfl ?_); refine goesL_ (some 50) rfl rfl Try.func49 (by kernel_rfl) rfl #[.int .i64 (wrap64 (t258 + 1)), .int .i64 t263] rfl (by (try simp only [List.map_toArray, List.map_cons, List.map_nil]); first | done | rfl | (simp only [List.length_drop, List.length_take]; rfl)) ?_; (with_reducible refine (spec_l1Most.calls0 (wrap64 (t258 + 1)) t263 t266 _ A14.out).mono ?_); rintro e w' ⟨rfl, rfl⟩; refine ⟨_, rfl, ?_⟩))
            go_ret3
            exact ⟨by first | rfl | (simp [errW_none, errW_some] <;> rfl) | (simp only [← hji8]; first | rfl | (simp [errW_none, errW_some] <;> rfl)) | (simp [*, errW_none, errW_some] <;> rfl), by repeat (first | (with_reducible first | exact HB.out | apply below_alloc | apply pw_below_drewN | apply below_drew1) | exact HB.out)⟩
          · rw [if_neg c11] at H
            exact absurd H (by simp)
        · rw [if_neg c9] at H
          exact absurd H (by simp)
      · rw [if_neg c6] at H
        exact absurd H (by simp)
    · rw [if_neg c5] at H
      exact absurd H (by simp)

/-! behind spec_trTests -/
theorem spec_trTests_is : ∀ (t : Tr) (fr : Int) (k : Nat), t.size < k → t.size ≤ 1000 → 0 ≤ fr → fr ≤ 100000 - t.size → spec_trTests.f k (t.toL fr) fr = some (t.tests, t.eggs, t.sum) := by
  intro t
  induction t with
  | nil =>
    intro fr k hk _ _ _
    obtain ⟨k, rfl⟩ : ∃ m, k = m + 1 := ⟨k - 1, by omega⟩
    simp only [spec_trTests.f]
    rw [if_pos (show ((Tr.nil.toL _).length : Int) = 0 from rfl)]
    rfl
  | node b a ihb iha =>
    intro fr k hk hs h0 h1
    obtain ⟨k, rfl⟩ : ∃ m, k = m + 1 := ⟨k - 1, by omega⟩
    have hsz : (Tr.node b a).size = b.size + a.size + 1 := rfl
    have hln := Tr.toL_length (Tr.node b a) fr
    rw [hsz] at hln hk hs h1
    have hsp := toL_split b a fr h0 (by omega) (by omega)
    have htk := toL_take b a fr
    have hdr := toL_drop b a fr
    have hrd : rd ((Tr.node b a).toL fr) 0 = fr + b.size := rfl
    generalize (Tr.node b a).toL fr = l at hln hsp htk hdr hrd ⊢
    have e3 : wrap64 (1 + (b.size : Int)) = ((b.size + 1 : Nat) : Int) := by unfold wrap64; omega
    have e5 : wrap64 (fr + b.size + 1) = fr + b.size + 1 := by unfold wrap64; omega
    have j1 := ihb fr k (by omega) (by omega) h0 (by omega)
    have j2 := iha (fr + b.size + 1) k (by omega) (by omega) (by omega) (by omega)
    simp only [spec_trTests.f]
    rw [if_neg (by omega : ¬ (l.length : Int) = 0), hsp, Option.bind_some, e3, if_pos (by omega : (1 : Int) ≤ ((b.size + 1 : Nat) : Int)), if_pos (by omega : ((b.size + 1 : Nat) : Int) ≤ (l.length : Int)), Int.toNat_natCast, htk, j1, Option.bind_some,
      if_pos (by omega : (0 : Int) ≤ ((b.size + 1 : Nat) : Int)), if_pos (by omega : (0 : Int) < (l.length : Int)), hdr, hrd, e5, j2, Option.bind_some]
    rw [spec_l1Most_is, Option.bind_some, spec_l1Most_is, Option.bind_some]
    have r1 := b.tests_range
    have r2 := a.tests_range
    have r3 := b.eggs_range
    have r4 := a.eggs_range
    have r5 := b.sum_range (by omega)
    have r6 := a.sum_range (by omega)
    clear ihb iha
    simp only [Tr.tests, Tr.eggs, Tr.sum]
    rw [hln]
    have w1 : wrap64 (b.eggs + 1) = b.eggs + 1 := by unfold wrap64; omega
    have w2 : wrap64 (1 + max b.tests a.tests) = 1 + max b.tests a.tests := by unfold wrap64; omega
    have w3 : wrap64 (b.sum + a.sum) = b.sum + a.sum := by unfold wrap64; omega
    have w4 : wrap64 (b.sum + a.sum + ((b.size + a.size + 1 : Nat) : Int)) = b.sum + a.sum + (b.size + a.size + 1) := by unfold wrap64; omega
    have w5 : wrap64 (b.sum + a.sum + (b.size + a.size + 1) + 1) = b.sum + a.sum + (b.size + a.size + 1) + 1 := by unfold wrap64; omega
    rw [w1, w2, w3, w4, w5]

end Go.Proofs.Ytmcjggjkfkkpbaa.PrintA
