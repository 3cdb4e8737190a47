-- written by this session's own driver (wip/gen.py) with the kit's print and contracts of our own
import Derived.Test.YtmclbiollhdbjaaPrintA0
import Derived.Test.YtmclbiollhdbjaaPrintA2
import Derived.Test.YtmclbiollhdbjaaPrintA3
namespace Go.Proofs.Ytmclbiollhdbjaa.PrintA
open Go.RowKit Go.Proofs.YtmclbiollhdbjaaLib Go.Proofs.YtmclbiollhdbjaaW.PrintWords Go.Proofs.YtmclbiollhdbjaaW.PrintLast Go.Proofs.YtmclbiollhdbjaaW.PrintMore
attribute [local go_sem] max2_int min2_int max_two min_two max_three min_three max_four min_four   -- for this text's walks alone
set_option linter.unusedVariables false
set_option linter.unusedSimpArgs false

/-! behind spec_trGood -/
-- LIB Tree
theorem rd_cons0 (x : Int) (r : List Int) : rd (x :: r) 0 = x := rfl
theorem spec_trGood_is : ∀ (n : Nat) (l : List Int) (fr : Int) (k : Nat), l.length ≤ n → n < k → n ≤ 1000 → 0 ≤ fr → fr + l.length ≤ 1000000 → spec_trGood.f k l fr = some (trOk n fr l) := by
  intro n
  induction n with
  | zero =>
    intro l fr k h1 h2 h3 h4 h5
    obtain ⟨k, rfl⟩ : ∃ m, k = m + 1 := ⟨k - 1, by omega⟩
    obtain rfl : l = [] := List.length_eq_zero_iff.1 (by omega)
    simp [spec_trGood.f, trOk]
  | succ n ih =>
    intro l fr k h1 h2 h3 h4 h5
    obtain ⟨k, rfl⟩ : ∃ m, k = m + 1 := ⟨k - 1, by omega⟩
    cases l with
    | nil => simp [spec_trGood.f, trOk]
    | cons x r =>
      simp only [List.length_cons] at h1 h5
      simp only [spec_trGood.f, List.length_cons, rd_cons0]
      rw [if_neg (by omega), if_pos (by omega), spec_l1In_is]
      have e1 : wrap64 (wrap64 (fr + ((r.length + 1 : Nat) : Int)) - 1) = fr + r.length := by unfold wrap64; omega
      rw [e1]
      simp only [Option.bind_some, trOk]
      by_cases hw : (decide (fr ≤ x) && decide (x ≤ fr + (r.length : Int))) = true
      · rw [if_pos hw, hw]
        simp only [Bool.and_eq_true, decide_eq_true_eq] at hw
        have e2 : spec_trSplit.f (x :: r) fr = some (x - fr) := by
          unfold spec_trSplit.f
          rw [if_pos (by simp only [List.length_cons]; omega), rd_cons0]
          congr 1; unfold wrap64; omega
        have e3 : wrap64 (1 + (x - fr)) = 1 + (x - fr) := by unfold wrap64; omega
        have e4 : (1 + (x - fr)).toNat = (x - fr).toNat + 1 := by omega
        rw [e2]
        simp only [Option.bind_some]
        rw [e3, if_pos (by omega), if_pos (by omega), e4, List.take_succ_cons, List.drop_succ_cons, List.drop_zero, List.drop_succ_cons]
        rw [ih (r.take (x - fr).toNat) fr k (by rw [List.length_take]; omega) (by omega) (by omega) h4 (by rw [List.length_take]; omega)]
        have e5 : wrap64 (x + 1) = x + 1 := by unfold wrap64; omega
        simp only [Option.bind_some, Bool.true_and, e5]
        by_cases hg : trOk n fr (r.take (x - fr).toNat) = true
        · rw [if_pos hg, if_pos (by omega), hg, ih (r.drop (x - fr).toNat) (x + 1) k (by rw [List.length_drop]; omega) (by omega) (by omega) (by omega) (by rw [List.length_drop]; omega)]
          rfl
        · rw [if_neg hg, Bool.eq_false_iff.mpr hg]; rfl
      · rw [if_neg hw, Bool.eq_false_iff.mpr hw]; rfl

/-! ### spec_trIs: function 35 -/
def spec_trIs.f (k : Nat) (l0 : List Int) : Option (Bool) := if (l0.length : Int) ≤ 30 then ((spec_trGood.f k l0 1).bind fun t110 => (some t110)) else (some false)
theorem spec_trIs.mono : ∀ a0 k, LeO (spec_trIs.f k a0) (spec_trIs.f (k + 1) a0) := by
  intro a0 k
  unfold spec_trIs.f
  repeat' first
      | (with_reducible exact spec_trGood.mono _ _ _)
      | (with_reducible exact LeO.refl _)
      | (with_reducible exact LeO.none _)
      | (with_reducible refine LeO.ite ?_ ?_)
      | (with_reducible refine LeO.bind ?_ (fun _ => ?_))
      | exact spec_trGood.mono _ _ _
      | exact LeO.none _
      | refine LeO.ite ?_ ?_
      | refine LeO.bind ?_ (fun _ => ?_)
set_option maxHeartbeats 8000000 in
set_option maxRecDepth 100000 in
theorem spec_trIs.calls (k : Nat) (A0 : Option Addr) (c0 : Nat) (l0 : List Int) (r : Bool) (w : World) (hr0 : Kd.C (Kd.int .i64) w A0 l0.length l0) (hc0 : l0.length ≤ c0) (h : spec_trIs.f k l0 = some r) :
    Calls Try.prog 35 #[.slice A0 l0.length c0] w fun e w' => e = .returned (.bool r) ∧ Below w.heap.size w w' := by
  have HR0 := Aside0.mk hr0
  have HC0 := Aside0.mk hc0
  clear hr0 hc0
  have HB := Aside0.mk (Below.refl w.heap.size w)
  have H : (if (l0.length : Int) ≤ 30 then ((spec_trGood.f k l0 1).bind fun t110 => (some t110)) else (some false)) = some r := h
  clear h
  by_cases c2 : (l0.length : Int) ≤ 30
  · rw [if_pos c2] at H
    have c2b0 : decide ((l0.length : Int) ≤ 30) = true := decide_eq_true c2
    have c2b1 : decide (l0.length ≤ 30) = true := decide_eq_true (by omega)
    clear c2
    replace H := Option.bind_eq_some_iff.mp H
    obtain ⟨t110, A30, H⟩ := H
    replace H : (some t110) = some r := H
    have A3 := Aside0.mk A30
    clear A30
    obtain rfl := Option.some.inj H
    go_enter Try.func35, Try.ntmps35
    go_wp2_with (first | (go_at_call 58; (with_reducible refine (spec_trGood.calls k _ _ l0 1 t110 _ ?side1 ?side2 A3.out).mono ?_); (case side1 => repeat (first | exact HR0.out | (with_reducible refine Kd.C_alloc ?_ _) | (with_reducible refine Kd.C_drewN ?_ _) | (with_reducible refine Kd.C_drew ?_))); (case side2 => exact HC0.out); rintro e w4 ⟨rfl, hb⟩; have n0_ := Aside0.mk (below_step (by repeat (first | (with_reducible first | exact HB.out | apply below_alloc | apply pw_below_drewN | apply below_drew1) | exact HB.out)) hb); clear HB; have HB := n0_; clear n0_; (try clear hb); (try clear hb2); (try clear hk); (try clear hi)))
    go_ret
    exact ⟨by first | rfl | (simp [errW_none, errW_some] <;> rfl) | (simp [*, errW_none, errW_some] <;> rfl), by repeat (first | (with_reducible first | exact HB.out | apply below_alloc | apply pw_below_drewN | apply below_drew1) | exact HB.out)⟩
  · rw [if_neg c2] at H
    have c2b0 : decide ((l0.length : Int) ≤ 30) = false := decide_eq_false c2
    have c2b1 : decide (l0.length ≤ 30) = false := decide_eq_false (by omega)
    clear c2
    obtain rfl := Option.some.inj H
    go_enter Try.func35, Try.ntmps35
    go_wp2
    go_ret
    exact ⟨by first | rfl | (simp [errW_none, errW_some] <;> rfl) | (simp [*, errW_none, errW_some] <;> rfl), by repeat (first | (with_reducible first | exact HB.out | apply below_alloc | apply pw_below_drewN | apply below_drew1) | exact HB.out)⟩

/-! behind spec_trIs -/
theorem spec_trIs_is (l : List Int) (k : Nat) (hk : 30 < k) : spec_trIs.f k l = some (decide (l.length ≤ 30) && trOk 30 1 l) := by
  unfold spec_trIs.f
  by_cases h : l.length ≤ 30
  · rw [if_pos (by omega), spec_trGood_is 30 l 1 k h hk (by omega) (by omega) (by omega), decide_eq_true h]; rfl
  · rw [if_neg (by omega), decide_eq_false h]; rfl

end Go.Proofs.Ytmclbiollhdbjaa.PrintA
