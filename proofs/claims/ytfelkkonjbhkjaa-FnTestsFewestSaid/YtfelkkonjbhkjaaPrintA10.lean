-- written by this session's own driver (wip/gen.py) with the kit's print and contracts of our own
import Derived.Test.YtfelkkonjbhkjaaPrintA0
import Derived.Test.YtfelkkonjbhkjaaPrintA1
import Derived.Test.YtfelkkonjbhkjaaPrintA2
import Derived.Test.YtfelkkonjbhkjaaPrintA3
import Derived.Test.YtfelkkonjbhkjaaPrintA4
import Derived.Test.YtfelkkonjbhkjaaPrintA6
import Derived.Test.YtfelkkonjbhkjaaPrintA7
import Derived.Test.YtfelkkonjbhkjaaPrintA9
namespace Go.Proofs.Ytfelkkonjbhkjaa.PrintA
open Go.RowKit Go.Proofs.YtfelkkonjbhkjaaLib Go.Proofs.YtfelkkonjbhkjaaW.PrintWords Go.Proofs.YtfelkkonjbhkjaaW.PrintLast Go.Proofs.YtfelkkonjbhkjaaW.PrintMore
attribute [local go_sem] max2_int min2_int max_two min_two max_three min_three max_four min_four   -- for this text's walks alone
set_option linter.unusedVariables false
set_option linter.unusedSimpArgs false

/-! ### spec_BestFloor: function 13 -/
def spec_BestFloor.f (k : Nat) (a0 : Int) (a1 : Int) : Option (Int × Bool) := (spec_flBoth.f a0 a1).bind fun t192 => (if t192 = true then (if a1 = 0 then (some (0, false)) else ((spec_flGood.f k a0 a1).bind fun t193 => (if 0 < (t193.length : Int) then (some (rd t193 0, true)) else (none)))) else (some (0, false)))
theorem spec_BestFloor.mono : ∀ a0 a1 k, LeO (spec_BestFloor.f k a0 a1) (spec_BestFloor.f (k + 1) a0 a1) := by
  intro a0 a1 k
  unfold spec_BestFloor.f
  repeat' first
      | (with_reducible exact spec_flGood.mono _ _ _)
      | (with_reducible exact LeO.refl _)
      | (with_reducible exact LeO.none _)
      | (with_reducible refine LeO.ite ?_ ?_)
      | (with_reducible refine LeO.bind ?_ (fun _ => ?_))
      | exact spec_flGood.mono _ _ _
      | exact LeO.none _
      | refine LeO.ite ?_ ?_
      | refine LeO.bind ?_ (fun _ => ?_)
set_option maxHeartbeats 8000000 in
set_option maxRecDepth 100000 in
theorem spec_BestFloor.calls (k : Nat) (a0 : Int) (a1 : Int) (r1 : Int) (r2 : Bool) (w : World) (h : spec_BestFloor.f k a0 a1 = some (r1, r2)) :
    Calls Try.prog 13 #[.int .i64 a0, .int .i64 a1] w fun e w' => e = .returned (.tuple #[.int .i64 r1, .bool r2]) ∧ Below w.heap.size w w' := by
  have HB := Aside0.mk (Below.refl w.heap.size w)
  have H : ((spec_flBoth.f a0 a1).bind fun t192 => (if t192 = true then (if a1 = 0 then (some (0, false)) else ((spec_flGood.f k a0 a1).bind fun t193 => (if 0 < (t193.length : Int) then (some (rd t193 0, true)) else (none)))) else (some (0, false)))) = some (r1, r2) := h
  clear h
  replace H := Option.bind_eq_some_iff.mp H
  obtain ⟨t192, A30, H⟩ := H
  replace H : (if t192 = true then (if a1 = 0 then (some (0, false)) else ((spec_flGood.f k a0 a1).bind fun t193 => (if 0 < (t193.length : Int) then (some (rd t193 0, true)) else (none)))) else (some (0, false))) = some (r1, r2) := H
  have A3 := Aside0.mk A30
  clear A30
  by_cases c4 : t192 = true
  · subst c4
    have H1 : (if a1 = 0 then (some (0, false)) else ((spec_flGood.f k a0 a1).bind fun t193 => (if 0 < (t193.length : Int) then (some (rd t193 0, true)) else (none)))) = some (r1, r2) := by rw [if_pos rfl] at H; exact H
    clear H
    have H := H1
    clear H1
    by_cases c5 : a1 = 0
    · rw [if_pos c5] at H
      have c5b0 : (a1 == 0) = true := beq_iff_eq.mpr c5
      have c5b1 : (a1 != 0) = false := bne_eq_false_iff_eq.mpr c5
      clear c5
      simp only [Option.some.injEq, Prod.mk.injEq] at H
      obtain ⟨rfl, rfl⟩ := H
      go_enter Try.func13, Try.ntmps13
      go_wp2_with (first | ((with_reducible refine gate_callee (f := 39) rfl ?_); refine goesL_ (some 8) rfl rfl Try.func39 (by kernel_rfl) rfl #[.int .i64 a0, .int .i64 a1] rfl (by (try simp only [List.map_toArray, List.map_cons, List.map_nil]); first | done | rfl | (simp only [List.length_drop, List.length_take]; rfl)) ?_; (with_reducible refine (spec_flBoth.calls0 a0 a1 true _ A3.out).mono ?_); rintro e w' ⟨rfl, rfl⟩; refine ⟨_, rfl, ?_⟩))
      go_ret2
      exact ⟨by first | rfl | (simp [errW_none, errW_some] <;> rfl) | (simp [*, errW_none, errW_some] <;> rfl), by repeat (first | (with_reducible first | exact HB.out | apply below_alloc | apply pw_below_drewN | apply below_drew1) | exact HB.out)⟩
    · rw [if_neg c5] at H
      have c5b0 : (a1 == 0) = false := beq_eq_false_iff_ne.mpr c5
      have c5b1 : (a1 != 0) = true := bne_iff_ne.mpr c5
      replace H := Option.bind_eq_some_iff.mp H
      obtain ⟨t193, A60, H⟩ := H
      replace H : (if 0 < (t193.length : Int) then (some (rd t193 0, true)) else (none)) = some (r1, r2) := H
      have A6 := Aside0.mk A60
      clear A60
      by_cases c7 : 0 < (t193.length : Int)
      · rw [if_pos c7] at H
        have c7b0 : decide (0 < (t193.length : Int)) = true := decide_eq_true c7
        have c7b1 : decide (0 < t193.length) = true := decide_eq_true (by omega)
        clear c7
        simp only [Option.some.injEq, Prod.mk.injEq] at H
        obtain ⟨rfl, rfl⟩ := H
        go_enter Try.func13, Try.ntmps13
        go_wp2_with (first | ((with_reducible refine gate_callee (f := 39) rfl ?_); refine goesL_ (some 8) rfl rfl Try.func39 (by kernel_rfl) rfl #[.int .i64 a0, .int .i64 a1] rfl (by (try simp only [List.map_toArray, List.map_cons, List.map_nil]); first | done | rfl | (simp only [List.length_drop, List.length_take]; rfl)) ?_; (with_reducible refine (spec_flBoth.calls0 a0 a1 true _ A3.out).mono ?_); rintro e w' ⟨rfl, rfl⟩; refine ⟨_, rfl, ?_⟩) | ((with_reducible refine gate_callee (f := 44) rfl ?_); refine goesL_ (some 16) rfl rfl Try.func44 (by kernel_rfl) rfl #[.int .i64 a0, .int .i64 a1] rfl (by (try simp only [List.map_toArray, List.map_cons, List.map_nil]); first | done | rfl | (simp only [List.length_drop, List.length_take]; rfl)) ?_; (with_reducible refine (spec_flGood.calls k a0 a1 t193 _ A6.out).mono ?_); rintro e w8 ⟨v194, rfl, ho0, hb⟩; refine ⟨_, rfl, ?_⟩; have n0_ := Aside0.mk (Kd.R_lower ho0 (below_size (by repeat (first | (with_reducible first | exact HB.out | apply below_alloc | apply pw_below_drewN | apply below_drew1) | exact HB.out)))); have n1_ := Aside0.mk (below_step (by repeat (first | (with_reducible first | exact HB.out | apply below_alloc | apply pw_below_drewN | apply below_drew1) | exact HB.out)) hb); clear HB; have HO195 := n0_; have HB := n1_; clear n0_ n1_; (try clear hb); (try clear hb2); (try clear hk); (try clear hi); (try clear ho0); obtain ⟨Ao9, co9, eo9⟩ := Kd.R_slice HO195.out; subst eo9; have p196 : 0 ≤ (0 : Int) := (by omega); have q196 : 0 < (t193.length : Int) := of_decide_eq_true (by first | (with_reducible assumption) | assumption); obtain ⟨ad196, e196, hx196_0⟩ := Kd.at_int (Kd.R_reads' HO195.out).2.2 0 p196 q196; cases e196; have qi196 : (0 < t193.length) = True := eq_true (by omega); (try rw [show ((0 : Int)).toNat = 0 from rfl] at hx196_0); (try rw [Addr.add_zero'] at hx196_0); replace p196 := eq_true p196; replace q196 := eq_true q196))
        go_ret2
        exact ⟨by first | rfl | (simp [errW_none, errW_some] <;> rfl) | (simp [*, errW_none, errW_some] <;> rfl), by repeat (first | (with_reducible first | exact HB.out | apply below_alloc | apply pw_below_drewN | apply below_drew1) | exact HB.out)⟩
      · rw [if_neg c7] at H
        exact absurd H (by simp)
  · replace c4 := Bool.eq_false_iff.mpr c4
    subst c4
    have H1 : (some (0, false)) = some (r1, r2) := by rw [if_neg (show ¬ (false = true) by decide)] at H; exact H
    clear H
    have H := H1
    clear H1
    simp only [Option.some.injEq, Prod.mk.injEq] at H
    obtain ⟨rfl, rfl⟩ := H
    go_enter Try.func13, Try.ntmps13
    go_wp2_with (first | ((with_reducible refine gate_callee (f := 39) rfl ?_); refine goesL_ (some 8) rfl rfl Try.func39 (by kernel_rfl) rfl #[.int .i64 a0, .int .i64 a1] rfl (by (try simp only [List.map_toArray, List.map_cons, List.map_nil]); first | done | rfl | (simp only [List.length_drop, List.length_take]; rfl)) ?_; (with_reducible refine (spec_flBoth.calls0 a0 a1 false _ A3.out).mono ?_); rintro e w' ⟨rfl, rfl⟩; refine ⟨_, rfl, ?_⟩))
    go_ret2
    exact ⟨by first | rfl | (simp [errW_none, errW_some] <;> rfl) | (simp [*, errW_none, errW_some] <;> rfl), by repeat (first | (with_reducible first | exact HB.out | apply below_alloc | apply pw_below_drewN | apply below_drew1) | exact HB.out)⟩

/-! ### laws_eSame: function 14 -/
def laws_eSame.l0 : Nat → List Int → List Int → Int → Int → Option (Bool)
  | 0, _, _, _, _ => none
  | k + 1, x0, x1, x12, x13 => if x13 < x12 then (if 0 ≤ x13 then (if x13 < (x0.length : Int) then (if x13 < (x1.length : Int) then (if (rd x0 x13) = (rd x1 x13) then (laws_eSame.l0 k x0 x1 x12 (wrap64 (x13 + 1))) else (some false)) else (none)) else (none)) else (none)) else (some true)
def laws_eSame.f (k : Nat) (l0 : List Int) (l1 : List Int) : Option (Bool) := if (l0.length : Int) = (l1.length : Int) then (laws_eSame.l0 k l0 l1 (l0.length : Int) 0) else (some false)
theorem laws_eSame.mono_l : ∀ k, (∀ y0 y1 y2 y3, LeO (laws_eSame.l0 k y0 y1 y2 y3) (laws_eSame.l0 (k + 1) y0 y1 y2 y3))
  | 0 => fun _ _ _ _ r h => by simp [laws_eSame.l0] at h
  | k + 1 => by
    have ih0 := laws_eSame.mono_l k
    · intro y0 y1 y2 y3
      unfold laws_eSame.l0
      repeat' first
      | (with_reducible exact ih0 _ _ _ _)
      | (with_reducible exact LeO.refl _)
      | (with_reducible exact LeO.none _)
      | (with_reducible refine LeO.ite ?_ ?_)
      | (with_reducible refine LeO.bind ?_ (fun _ => ?_))
      | exact ih0 _ _ _ _
      | exact LeO.none _
      | refine LeO.ite ?_ ?_
      | refine LeO.bind ?_ (fun _ => ?_)
theorem laws_eSame.mono : ∀ a0 a1 k, LeO (laws_eSame.f k a0 a1) (laws_eSame.f (k + 1) a0 a1) := by
  intro a0 a1 k
  have ih0 := laws_eSame.mono_l k
  unfold laws_eSame.f
  repeat' first
      | (with_reducible exact ih0 _ _ _ _)
      | (with_reducible exact LeO.refl _)
      | (with_reducible exact LeO.none _)
      | (with_reducible refine LeO.ite ?_ ?_)
      | (with_reducible refine LeO.bind ?_ (fun _ => ?_))
      | exact ih0 _ _ _ _
      | exact LeO.none _
      | refine LeO.ite ?_ ?_
      | refine LeO.bind ?_ (fun _ => ?_)
set_option maxHeartbeats 8000000 in
set_option maxRecDepth 100000 in
theorem laws_eSame.calls (k : Nat) (A0 : Option Addr) (c0 : Nat) (l0 : List Int) (A1 : Option Addr) (c1 : Nat) (l1 : List Int) (r : Bool) (w : World) (hr0 : Kd.C (Kd.int .i64) w A0 l0.length l0) (hc0 : l0.length ≤ c0) (hr1 : Kd.C (Kd.int .i64) w A1 l1.length l1) (hc1 : l1.length ≤ c1) (h : laws_eSame.f k l0 l1 = some r) :
    Calls Try.prog 14 #[.slice A0 l0.length c0, .slice A1 l1.length c1] w fun e w' => e = .returned (.bool r) ∧ Drawn0 w w' := by
  have HR0 := Aside0.mk hr0
  have HC0 := Aside0.mk hc0
  clear hr0 hc0
  have HR1 := Aside0.mk hr1
  have HC1 := Aside0.mk hc1
  clear hr1 hc1
  have H : (if (l0.length : Int) = (l1.length : Int) then (laws_eSame.l0 k l0 l1 (l0.length : Int) 0) else (some false)) = some r := h
  clear h
  by_cases c3 : (l0.length : Int) = (l1.length : Int)
  · rw [if_pos c3] at H
    have c3b0 : ((l0.length : Int) == (l1.length : Int)) = true := beq_iff_eq.mpr c3
    have c3b1 : ((l0.length : Int) != (l1.length : Int)) = false := bne_eq_false_iff_eq.mpr c3
    have c3b2 : (l0.length == l1.length) = true := by first | simpa using c3 | (simp at c3 ⊢; omega)
    clear c3
    have H' := Aside0.mk H
    clear H
    go_enter Try.func14, Try.ntmps14
    go_wp2
    repeat (go_quiet (fail); try go_wp2)
    go_loopg [13] k (fun kq v13 w' => ∃ (x13_1 : Int), v13 = .int .i64 x13_1 ∧ Aside0 (laws_eSame.l0 kq l0 l1 (l0.length : Int) x13_1 = some r) ∧ Aside0 (kq ≤ k) ∧ Drawn0 w w')
    case atStart => exact ⟨(0), (by first | rfl | (simp; done) | (simp [*]; done)), H', ⟨Nat.le_refl _⟩, by repeat (first | exact Drawn0.refl _ | apply Drawn0.step)⟩
    case round =>
      clear H'
      try clear c1
      try clear p2
      try clear c3
      try clear c3b0
      try clear c3b1
      try clear c3b2
      obtain ⟨x13_1, rfl, HA, HK1, ⟨m1, rfl⟩⟩ := hrel
      cases gk with
      | zero => exact absurd HA.out (by simp [laws_eSame.l0])
      | succ k1 =>
        have H := HA.out
        clear HA
        simp only [laws_eSame.l0] at H
        by_cases c4 : x13_1 < (l0.length : Int)
        · rw [if_pos c4] at H
          have c4b0 : decide (x13_1 < (l0.length : Int)) = true := decide_eq_true c4
          clear c4
          by_cases c5 : 0 ≤ x13_1
          · rw [if_pos c5] at H
            have c5b0 : decide (0 ≤ x13_1) = true := decide_eq_true c5
            clear c5
            by_cases c6 : x13_1 < (l0.length : Int)
            · rw [if_pos c6] at H
              have c6b0 : decide (x13_1 < (l0.length : Int)) = true := decide_eq_true c6
              clear c6
              by_cases c7 : x13_1 < (l1.length : Int)
              · rw [if_pos c7] at H
                have c7b0 : decide (x13_1 < (l1.length : Int)) = true := decide_eq_true c7
                clear c7
                by_cases c8 : (rd l0 x13_1) = (rd l1 x13_1)
                · rw [if_pos c8] at H
                  have c8b0 : ((rd l0 x13_1) == (rd l1 x13_1)) = true := beq_iff_eq.mpr c8
                  have c8b1 : ((rd l0 x13_1) != (rd l1 x13_1)) = false := bne_eq_false_iff_eq.mpr c8
                  clear c8
                  have H' := Aside0.mk H
                  clear H
                  have p197 : 0 ≤ (x13_1 : Int) := of_decide_eq_true (by first | (with_reducible assumption) | assumption)
                  have q197 : x13_1 < (l0.length : Int) := of_decide_eq_true (by first | (with_reducible assumption) | assumption)
                  obtain ⟨ad197, e197, hx197_0⟩ := Kd.at_int HR0.out x13_1 p197 q197
                  cases e197
                  replace p197 := eq_true p197
                  replace q197 := eq_true q197
                  have p198 : 0 ≤ (x13_1 : Int) := of_decide_eq_true (by first | (with_reducible assumption) | assumption)
                  have q198 : x13_1 < (l1.length : Int) := of_decide_eq_true (by first | (with_reducible assumption) | assumption)
                  obtain ⟨ad198, e198, hx198_0⟩ := Kd.at_int HR1.out x13_1 p198 q198
                  cases e198
                  replace p198 := eq_true p198
                  replace q198 := eq_true q198
                  go_wp2
                  repeat (go_quiet (fail); try go_wp2)
                  go_roundg k1
                  case measure => have := HK1.out; omega
                  case rel => exact ⟨(wrap64 (x13_1 + 1)), (by first | rfl | (simp; done) | (simp [*]; done)), H', ⟨by have := HK1.out; omega⟩, by repeat (first | exact Drawn0.refl _ | apply Drawn0.step)⟩
                · rw [if_neg c8] at H
                  have c8b0 : ((rd l0 x13_1) == (rd l1 x13_1)) = false := beq_eq_false_iff_ne.mpr c8
                  have c8b1 : ((rd l0 x13_1) != (rd l1 x13_1)) = true := bne_iff_ne.mpr c8
                  obtain rfl := Option.some.inj H
                  have p197 : 0 ≤ (x13_1 : Int) := of_decide_eq_true (by first | (with_reducible assumption) | assumption)
                  have q197 : x13_1 < (l0.length : Int) := of_decide_eq_true (by first | (with_reducible assumption) | assumption)
                  obtain ⟨ad197, e197, hx197_0⟩ := Kd.at_int HR0.out x13_1 p197 q197
                  cases e197
                  replace p197 := eq_true p197
                  replace q197 := eq_true q197
                  have p198 : 0 ≤ (x13_1 : Int) := of_decide_eq_true (by first | (with_reducible assumption) | assumption)
                  have q198 : x13_1 < (l1.length : Int) := of_decide_eq_true (by first | (with_reducible assumption) | assumption)
                  obtain ⟨ad198, e198, hx198_0⟩ := Kd.at_int HR1.out x13_1 p198 q198
                  cases e198
                  replace p198 := eq_true p198
                  replace q198 := eq_true q198
                  go_wp2
                  repeat (go_quiet (fail); try go_wp2)
                  go_ret
                  exact ⟨by first | rfl | (simp; done) | (simp [*]; done), by repeat (first | exact Drawn0.refl _ | apply Drawn0.step)⟩
              · rw [if_neg c7] at H
                exact absurd H (by simp)
            · rw [if_neg c6] at H
              exact absurd H (by simp)
          · rw [if_neg c5] at H
            exact absurd H (by simp)
        · rw [if_neg c4] at H
          have c4b0 : decide (x13_1 < (l0.length : Int)) = false := decide_eq_false c4
          clear c4
          obtain rfl := Option.some.inj H
          go_wp2
          repeat (go_quiet (fail); try go_wp2)
          go_ret
          exact ⟨by first | rfl | (simp; done) | (simp [*]; done), by repeat (first | exact Drawn0.refl _ | apply Drawn0.step)⟩
  · rw [if_neg c3] at H
    have c3b0 : ((l0.length : Int) == (l1.length : Int)) = false := beq_eq_false_iff_ne.mpr c3
    have c3b1 : ((l0.length : Int) != (l1.length : Int)) = true := bne_iff_ne.mpr c3
    have c3b2 : (l0.length == l1.length) = false := by first | simpa using c3 | (simp at c3 ⊢; omega)
    obtain rfl := Option.some.inj H
    go_enter Try.func14, Try.ntmps14
    go_wp2
    repeat (go_quiet (fail); try go_wp2)
    go_ret
    exact ⟨by first | rfl | (simp; done) | (simp [*]; done), by repeat (first | exact Drawn0.refl _ | apply Drawn0.step)⟩

/-! behind laws_eSame -/
theorem eSame_l0 (L : List Int) (hL : L.length ≤ 1000000) : ∀ (d k i : Nat), i ≤ L.length → L.length - i = d → d < k → laws_eSame.l0 k L L (L.length : Int) (i : Int) = some true := by
  intro d
  induction d with
  | zero =>
    intro k i h1 hd hk
    obtain ⟨k, rfl⟩ : ∃ m, k = m + 1 := ⟨k - 1, by omega⟩
    rw [laws_eSame.l0, if_neg (by omega)]
  | succ d ih =>
    intro k i h1 hd hk
    obtain ⟨k, rfl⟩ : ∃ m, k = m + 1 := ⟨k - 1, by omega⟩
    have e : wrap64 ((i : Int) + 1) = ((i + 1 : Nat) : Int) := by unfold wrap64; omega
    rw [laws_eSame.l0, if_pos (by clear e; omega), if_pos (by clear e; omega), if_pos (by clear e; omega), if_pos (by clear e; omega), if_pos rfl, e]
    exact ih k (i + 1) (by clear e; omega) (by clear e; omega) (by clear e; omega)
theorem eSame_is (L : List Int) (hL : L.length ≤ 1000000) (k : Nat) (hk : L.length < k) : laws_eSame.f k L L = some true := by
  unfold laws_eSame.f
  rw [if_pos rfl]
  exact eSame_l0 L hL L.length k 0 (by omega) (by omega) hk

/-! behind spec_BestFloor -/
theorem flBoth_isH (a n : Int) : spec_flBoth.f a n = some (isH a n) := spec_flBoth_is a n
theorem isH_nat {a n : Int} (h : isH a n = true) : ∃ e m : Nat, a = e ∧ n = m ∧ 1 ≤ e ∧ e ≤ 10 ∧ m ≤ 1000 := by
  obtain ⟨⟨h1, h2⟩, h3, h4⟩ := isH_true h
  exact ⟨a.toNat, n.toNat, by omega, by omega, by omega, by omega, by omega⟩
theorem l_n2 {F : Nat} {a b r : Int} {ok : Bool} (h : ∀ W : World, Calls Try.prog F #[.int .i64 a, .int .i64 b] W fun e w' => e = .returned (.tuple #[.int .i64 r, .bool ok]) ∧ Below W.heap.size W w') : LN2 F a b r ok := h
theorem few_i {a n : Int} : impl_FewestTests.f a n = some (if isH a n = true then (few a.toNat n : Int) else 0, isH a n) := by
  unfold impl_FewestTests.f
  cases h : isH a n with
  | true => rw [if_pos rfl, if_pos rfl]
  | false => rw [if_neg (by decide), if_neg (by decide)]
theorem few_s {a n : Int} : spec_FewestTests.f 40000 a n = some (if isH a n = true then (few a.toNat n : Int) else 0, isH a n) := by
  unfold spec_FewestTests.f
  rw [flBoth_isH, Option.bind_some]
  cases h : isH a n with
  | true =>
    obtain ⟨e, m, rfl, rfl, h1, h2, h3⟩ := isH_nat h
    rw [if_pos rfl, if_pos rfl, spec_flFew_is e m h2 h1 (by omega) 40000 (by omega), Option.bind_some, Int.toNat_natCast]
  | false => rw [if_neg (by decide), if_neg (by decide)]
theorem good_i {a n : Int} : impl_GoodFloors.f a n = some (if isH a n = true then goodL a.toNat n.toNat else [], isH a n) := by
  unfold impl_GoodFloors.f
  cases h : isH a n with
  | true => rw [if_pos rfl, if_pos rfl]
  | false => rw [if_neg (by decide), if_neg (by decide)]
theorem good_s {a n : Int} : spec_GoodFloors.f 40000 a n = some (if isH a n = true then goodL a.toNat n.toNat else [], isH a n) := by
  unfold spec_GoodFloors.f
  rw [flBoth_isH, Option.bind_some]
  cases h : isH a n with
  | true =>
    obtain ⟨e, m, rfl, rfl, h1, h2, h3⟩ := isH_nat h
    rw [if_pos rfl, if_pos rfl, flGood_is e m h1 h2 h3 40000 (by omega), Option.bind_some, Int.toNat_natCast, Int.toNat_natCast]
  | false => rw [if_neg (by decide), if_neg (by decide)]
theorem best_i {a n : Int} : impl_BestFloor.f a n = some (if isH a n = true ∧ n ≠ 0 then bestF a.toNat n else 0, isH a n && decide (0 < n)) := by
  unfold impl_BestFloor.f
  cases h : isH a n with
  | true =>
    obtain ⟨e, m, rfl, rfl, h1, h2, h3⟩ := isH_nat h
    by_cases hm : (m : Int) = 0
    · rw [if_neg (by intro h; exact h.2 hm), if_neg (by intro h; exact h.2 hm), decide_eq_false (by omega)]; rfl
    · rw [if_pos ⟨rfl, hm⟩, if_pos ⟨rfl, hm⟩, decide_eq_true (by omega)]; rfl
  | false => rw [if_neg (by intro h; exact absurd h.1 (by decide)), if_neg (by intro h; exact absurd h.1 (by decide))]; rfl
theorem best_s {a n : Int} : spec_BestFloor.f 40000 a n = some (if isH a n = true ∧ n ≠ 0 then bestF a.toNat n else 0, isH a n && decide (0 < n)) := by
  unfold spec_BestFloor.f
  rw [flBoth_isH, Option.bind_some]
  cases h : isH a n with
  | true =>
    obtain ⟨e, m, rfl, rfl, h1, h2, h3⟩ := isH_nat h
    rw [if_pos rfl]
    by_cases hm : (m : Int) = 0
    · rw [if_pos hm, if_neg (by intro h; exact h.2 hm), decide_eq_false (by omega)]; rfl
    · obtain ⟨g1, g2⟩ := goodL_best e m h1 h2 (by omega) h3
      rw [if_neg hm, flGood_is e m h1 h2 h3 40000 (by omega), Option.bind_some, if_pos (by omega), if_pos ⟨rfl, hm⟩, g2, decide_eq_true (by omega), Int.toNat_natCast]; rfl
  | false => rw [if_neg (by decide), if_neg (by intro h; exact absurd h.1 (by decide))]; rfl
/-- All the hardest breaks. -/
def hardL (a n : Int) : List Int := if isH a n = true then fltG (playN a.toNat n) (mxN (playN a.toNat n) (n.toNat + 1)) (n.toNat + 1) else []
theorem hard_i {a n : Int} : impl_HardestBreaks.f a n = some (hardL a n, isH a n) := by
  cases h : isH a n with
  | true =>
    obtain ⟨e, m, rfl, rfl, h1, h2, h3⟩ := isH_nat h
    rw [(hard_both e m h1 h2 h3).1]
    unfold hardL
    rw [if_pos h, Int.toNat_natCast, Int.toNat_natCast]
  | false =>
    unfold impl_HardestBreaks.f hardL
    rw [impl_isHouse_is, show ((decide (1 ≤ a) && decide (a ≤ 10)) && (decide (0 ≤ n) && decide (n ≤ 1000))) = false from h, Option.bind_some, if_neg (by decide), if_neg (by first | decide | (rw [h]; decide))]
theorem hard_s {a n : Int} : spec_HardestBreaks.f 40000 a n = some (hardL a n, isH a n) := by
  cases h : isH a n with
  | true =>
    obtain ⟨e, m, rfl, rfl, h1, h2, h3⟩ := isH_nat h
    rw [(hard_both e m h1 h2 h3).2]
    unfold hardL
    rw [if_pos h, Int.toNat_natCast, Int.toNat_natCast]
  | false =>
    unfold spec_HardestBreaks.f hardL
    rw [flBoth_isH, h, Option.bind_some, if_neg (by decide), if_neg (by first | decide | (rw [h]; decide))]
theorem hardL_len (a n : Int) : (hardL a n).length ≤ 1001 := by
  unfold hardL
  by_cases h : isH a n = true
  · obtain ⟨e, m, rfl, rfl, h1, h2, h3⟩ := isH_nat h
    rw [if_pos h, Int.toNat_natCast, Int.toNat_natCast]
    have := fltG_len (playN e m) (mxN (playN e m) (m + 1)) (m + 1)
    omega
  · rw [if_neg h]; simp
theorem goodL_len (a n : Int) : (if isH a n = true then goodL a.toNat n.toNat else []).length ≤ 1000 := by
  by_cases h : isH a n = true
  · obtain ⟨e, m, rfl, rfl, h1, h2, h3⟩ := isH_nat h
    rw [if_pos h, Int.toNat_natCast, Int.toNat_natCast]
    have := goodP_len (goodB e (few e m) m) m
    unfold goodL; omega
  · rw [if_neg h]; simp
theorem ll2_of {F : Nat} {a b : Int} {r : List Int} {ok : Bool} (h : ∀ W : World, Calls Try.prog F #[.int .i64 a, .int .i64 b] W fun e w' => ∃ v0_ : Value, e = .returned (.tuple #[v0_, .bool ok]) ∧ Kd.R (Kd.int .i64) 3 w' W.heap.size (fun _ => True) v0_ r ∧ Below W.heap.size W w') : LL2 F a b r r.length ok := fun W => (h W).mono fun _ _ ⟨v0, he, hr, hb⟩ => by
  obtain ⟨A1, c1, rfl, q1, q2⟩ := Kd.R_reads hr
  exact ⟨A1, c1, he, q1, q2, hb⟩
theorem lsame_of (x : List Int) (hx : x.length ≤ 2000) : LSame x x.length := fun W A c A' c' h1 h2 h3 h4 => (laws_eSame.calls 3000 A c x A' c' x true W h2 h1 h4 h3 (eSame_is x (by omega) 3000 (by omega))).mono fun _ _ h => ⟨h.1, h.2.below⟩
theorem mk_LF {code : List Int} {a n : Int} (hd : LDraw 5 code code.length a n) : LF code code.length a n (hardL a n) (hardL a n).length (if isH a n = true then goodL a.toNat n.toNat else []) (if isH a n = true then goodL a.toNat n.toNat else []).length (if isH a n = true then (few a.toNat n : Int) else 0) (if isH a n = true ∧ n ≠ 0 then bestF a.toNat n else 0) (isH a n) (isH a n && decide (0 < n)) where
  draw := hd
  h1 := ll2_of fun W => impl_HardestBreaks.calls a n _ _ W hard_i
  h2 := ll2_of fun W => spec_HardestBreaks.calls 40000 a n _ _ W hard_s
  f1 := fun W => impl_FewestTests.calls a n _ _ W few_i
  f2 := fun W => spec_FewestTests.calls 40000 a n _ _ W few_s
  g1 := ll2_of fun W => impl_GoodFloors.calls a n _ _ W good_i
  g2 := ll2_of fun W => spec_GoodFloors.calls 40000 a n _ _ W good_s
  b1 := fun W => impl_BestFloor.calls a n _ _ W best_i
  b2 := fun W => spec_BestFloor.calls 40000 a n _ _ W best_s
  s1 := lsame_of _ (by have := hardL_len a n; omega)
  s2 := lsame_of _ (by have := goodL_len a n; omega)
theorem fbig_no (code more : List Int) (h : code.length + more.length ≤ 1048576) : LOnBig code code.length more more.length := fun W A c A' c' h1 h2 h3 h4 =>
  (laws_big.calls A c code A' c' more false W h2 h1 h4 h3 (by
    have e_ : wrap64 (1048576 - (code.length : Int)) = 1048576 - (code.length : Int) := by unfold wrap64; omega
    unfold laws_big.f
    rw [e_, if_neg (by clear e_; omega), decide_eq_false (by clear e_; omega)])).mono fun _ _ h => ⟨h.1, h.2.below⟩

/-! ### impl_isBreak: function 59 -/
def impl_isBreak.f (a0 : Int) (a1 : Int) : Option (Bool) := (impl_within.f a1 0 a0).bind fun t199 => (some t199)
set_option maxHeartbeats 8000000 in
set_option maxRecDepth 100000 in
theorem impl_isBreak.calls (a0 : Int) (a1 : Int) (r : Bool) (w : World) (h : impl_isBreak.f a0 a1 = some r) :
    Calls Try.prog 59 #[.int .i64 a0, .int .i64 a1] w fun e w' => e = .returned (.bool r) ∧ Drawn0 w w' := by
  have H : ((impl_within.f a1 0 a0).bind fun t199 => (some t199)) = some r := h
  clear h
  replace H := Option.bind_eq_some_iff.mp H
  obtain ⟨t199, A30, H⟩ := H
  replace H : (some t199) = some r := H
  have A3 := Aside0.mk A30
  clear A30
  obtain rfl := Option.some.inj H
  go_enter Try.func59, Try.ntmps59
  go_wp2_with (first | ((with_reducible refine gate_callee (f := 62) rfl ?_); refine goesL_ (some 7) rfl rfl Try.func62 (by kernel_rfl) rfl #[.int .i64 a1, .int .i64 0, .int .i64 a0] rfl (by (try simp only [List.map_toArray, List.map_cons, List.map_nil]); first | done | rfl | (simp only [List.length_drop, List.length_take]; rfl)) ?_; (with_reducible refine (impl_within.calls0 a1 0 a0 t199 _ A3.out).mono ?_); rintro e w' ⟨rfl, rfl⟩; refine ⟨_, rfl, ?_⟩))
  go_ret
  exact ⟨by first | rfl | (simp; done) | (simp [*]; done), by repeat (first | exact Drawn0.refl _ | apply Drawn0.step)⟩

set_option maxHeartbeats 8000000 in
set_option maxRecDepth 100000 in
theorem impl_isBreak.calls0 (a0 : Int) (a1 : Int) (r : Bool) (w : World) (h : impl_isBreak.f a0 a1 = some r) :
    Calls Try.prog 59 #[.int .i64 a0, .int .i64 a1] w fun e w' => e = .returned (.bool r) ∧ w = w' := by
  have H : ((impl_within.f a1 0 a0).bind fun t199 => (some t199)) = some r := h
  clear h
  replace H := Option.bind_eq_some_iff.mp H
  obtain ⟨t199, A30, H⟩ := H
  replace H : (some t199) = some r := H
  have A3 := Aside0.mk A30
  clear A30
  obtain rfl := Option.some.inj H
  go_enter Try.func59, Try.ntmps59
  go_wp2_with (first | ((with_reducible refine gate_callee (f := 62) rfl ?_); refine goesL_ (some 7) rfl rfl Try.func62 (by kernel_rfl) rfl #[.int .i64 a1, .int .i64 0, .int .i64 a0] rfl (by (try simp only [List.map_toArray, List.map_cons, List.map_nil]); first | done | rfl | (simp only [List.length_drop, List.length_take]; rfl)) ?_; (with_reducible refine (impl_within.calls0 a1 0 a0 t199 _ A3.out).mono ?_); rintro e w' ⟨rfl, rfl⟩; refine ⟨_, rfl, ?_⟩))
  go_ret
  exact ⟨by first | rfl | (simp; done) | (simp [*]; done), by first | rfl | simp⟩

/-! behind impl_isBreak -/
theorem impl_isBreak_is (a b : Int) : impl_isBreak.f a b = some (decide (0 ≤ b) && decide (b ≤ a)) := by unfold impl_isBreak.f; rw [impl_within_is]; rfl

/-! ### impl_isPlay: function 45 -/
def impl_isPlay.f (a0 : Int) (a1 : Int) (a2 : Int) : Option (Bool) := (impl_isHouse.f a0 a1).bind fun t200 => (if t200 = true then ((impl_isBreak.f a1 a2).bind fun t201 => (some t201)) else (some false))
set_option maxHeartbeats 8000000 in
set_option maxRecDepth 100000 in
theorem impl_isPlay.calls (a0 : Int) (a1 : Int) (a2 : Int) (r : Bool) (w : World) (h : impl_isPlay.f a0 a1 a2 = some r) :
    Calls Try.prog 45 #[.int .i64 a0, .int .i64 a1, .int .i64 a2] w fun e w' => e = .returned (.bool r) ∧ Drawn0 w w' := by
  have H : ((impl_isHouse.f a0 a1).bind fun t200 => (if t200 = true then ((impl_isBreak.f a1 a2).bind fun t201 => (some t201)) else (some false))) = some r := h
  clear h
  replace H := Option.bind_eq_some_iff.mp H
  obtain ⟨t200, A40, H⟩ := H
  replace H : (if t200 = true then ((impl_isBreak.f a1 a2).bind fun t201 => (some t201)) else (some false)) = some r := H
  have A4 := Aside0.mk A40
  clear A40
  by_cases c5 : t200 = true
  · subst c5
    have H1 : ((impl_isBreak.f a1 a2).bind fun t201 => (some t201)) = some r := by rw [if_pos rfl] at H; exact H
    clear H
    have H := H1
    clear H1
    replace H := Option.bind_eq_some_iff.mp H
    obtain ⟨t201, A60, H⟩ := H
    replace H : (some t201) = some r := H
    have A6 := Aside0.mk A60
    clear A60
    obtain rfl := Option.some.inj H
    go_enter Try.func45, Try.ntmps45
    go_wp2_with (first | ((with_reducible refine gate_callee (f := 33) rfl ?_); refine goesL_ (some 9) rfl rfl Try.func33 (by kernel_rfl) rfl #[.int .i64 a0, .int .i64 a1] rfl (by (try simp only [List.map_toArray, List.map_cons, List.map_nil]); first | done | rfl | (simp only [List.length_drop, List.length_take]; rfl)) ?_; (with_reducible refine (impl_isHouse.calls0 a0 a1 true _ A4.out).mono ?_); rintro e w' ⟨rfl, rfl⟩; refine ⟨_, rfl, ?_⟩) | (go_at_call 59; (with_reducible refine (impl_isBreak.calls0 a1 a2 t201 _ A6.out).mono ?_); rintro e w' ⟨rfl, rfl⟩))
    go_ret
    exact ⟨by first | rfl | (simp; done) | (simp [*]; done), by repeat (first | exact Drawn0.refl _ | apply Drawn0.step)⟩
  · replace c5 := Bool.eq_false_iff.mpr c5
    subst c5
    have H1 : (some false) = some r := by rw [if_neg (show ¬ (false = true) by decide)] at H; exact H
    clear H
    have H := H1
    clear H1
    obtain rfl := Option.some.inj H
    go_enter Try.func45, Try.ntmps45
    go_wp2_with (first | ((with_reducible refine gate_callee (f := 33) rfl ?_); refine goesL_ (some 9) rfl rfl Try.func33 (by kernel_rfl) rfl #[.int .i64 a0, .int .i64 a1] rfl (by (try simp only [List.map_toArray, List.map_cons, List.map_nil]); first | done | rfl | (simp only [List.length_drop, List.length_take]; rfl)) ?_; (with_reducible refine (impl_isHouse.calls0 a0 a1 false _ A4.out).mono ?_); rintro e w' ⟨rfl, rfl⟩; refine ⟨_, rfl, ?_⟩))
    go_ret
    exact ⟨by first | rfl | (simp; done) | (simp [*]; done), by repeat (first | exact Drawn0.refl _ | apply Drawn0.step)⟩

set_option maxHeartbeats 8000000 in
set_option maxRecDepth 100000 in
theorem impl_isPlay.calls0 (a0 : Int) (a1 : Int) (a2 : Int) (r : Bool) (w : World) (h : impl_isPlay.f a0 a1 a2 = some r) :
    Calls Try.prog 45 #[.int .i64 a0, .int .i64 a1, .int .i64 a2] w fun e w' => e = .returned (.bool r) ∧ w = w' := by
  have H : ((impl_isHouse.f a0 a1).bind fun t200 => (if t200 = true then ((impl_isBreak.f a1 a2).bind fun t201 => (some t201)) else (some false))) = some r := h
  clear h
  replace H := Option.bind_eq_some_iff.mp H
  obtain ⟨t200, A40, H⟩ := H
  replace H : (if t200 = true then ((impl_isBreak.f a1 a2).bind fun t201 => (some t201)) else (some false)) = some r := H
  have A4 := Aside0.mk A40
  clear A40
  by_cases c5 : t200 = true
  · subst c5
    have H1 : ((impl_isBreak.f a1 a2).bind fun t201 => (some t201)) = some r := by rw [if_pos rfl] at H; exact H
    clear H
    have H := H1
    clear H1
    replace H := Option.bind_eq_some_iff.mp H
    obtain ⟨t201, A60, H⟩ := H
    replace H : (some t201) = some r := H
    have A6 := Aside0.mk A60
    clear A60
    obtain rfl := Option.some.inj H
    go_enter Try.func45, Try.ntmps45
    go_wp2_with (first | ((with_reducible refine gate_callee (f := 33) rfl ?_); refine goesL_ (some 9) rfl rfl Try.func33 (by kernel_rfl) rfl #[.int .i64 a0, .int .i64 a1] rfl (by (try simp only [List.map_toArray, List.map_cons, List.map_nil]); first | done | rfl | (simp only [List.length_drop, List.length_take]; rfl)) ?_; (with_reducible refine (impl_isHouse.calls0 a0 a1 true _ A4.out).mono ?_); rintro e w' ⟨rfl, rfl⟩; refine ⟨_, rfl, ?_⟩) | (go_at_call 59; (with_reducible refine (impl_isBreak.calls0 a1 a2 t201 _ A6.out).mono ?_); rintro e w' ⟨rfl, rfl⟩))
    go_ret
    exact ⟨by first | rfl | (simp; done) | (simp [*]; done), by first | rfl | simp⟩
  · replace c5 := Bool.eq_false_iff.mpr c5
    subst c5
    have H1 : (some false) = some r := by rw [if_neg (show ¬ (false = true) by decide)] at H; exact H
    clear H
    have H := H1
    clear H1
    obtain rfl := Option.some.inj H
    go_enter Try.func45, Try.ntmps45
    go_wp2_with (first | ((with_reducible refine gate_callee (f := 33) rfl ?_); refine goesL_ (some 9) rfl rfl Try.func33 (by kernel_rfl) rfl #[.int .i64 a0, .int .i64 a1] rfl (by (try simp only [List.map_toArray, List.map_cons, List.map_nil]); first | done | rfl | (simp only [List.length_drop, List.length_take]; rfl)) ?_; (with_reducible refine (impl_isHouse.calls0 a0 a1 false _ A4.out).mono ?_); rintro e w' ⟨rfl, rfl⟩; refine ⟨_, rfl, ?_⟩))
    go_ret
    exact ⟨by first | rfl | (simp; done) | (simp [*]; done), by first | rfl | simp⟩

/-! behind impl_isPlay -/
theorem impl_isPlay_is (a b c : Int) : impl_isPlay.f a b c = some (((decide (1 ≤ a) && decide (a ≤ 10)) && (decide (0 ≤ b) && decide (b ≤ 1000))) && (decide (0 ≤ c) && decide (c ≤ b))) := by
  unfold impl_isPlay.f; rw [impl_isHouse_is, Option.bind_some, impl_isBreak_is]
  cases ((decide (1 ≤ a) && decide (a ≤ 10)) && (decide (0 ≤ b) && decide (b ≤ 1000))) <;> rfl

end Go.Proofs.Ytfelkkonjbhkjaa.PrintA
