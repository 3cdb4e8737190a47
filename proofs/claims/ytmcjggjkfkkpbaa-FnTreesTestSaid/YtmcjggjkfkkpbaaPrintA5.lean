-- written by this session's own driver (wip/gen.py) with the kit's print and contracts of our own
import Derived.Test.YtmcjggjkfkkpbaaPrintA0
import Derived.Test.YtmcjggjkfkkpbaaPrintA4
namespace Go.Proofs.Ytmcjggjkfkkpbaa.PrintA
open Go.RowKit Go.Proofs.YtmcjggjkfkkpbaaLib Go.Proofs.YtmcjggjkfkkpbaaW.PrintWords Go.Proofs.YtmcjggjkfkkpbaaW.PrintLast Go.Proofs.YtmcjggjkfkkpbaaW.PrintMore
attribute [local go_sem] max2_int min2_int max_two min_two max_three min_three max_four min_four   -- for this text's walks alone
set_option linter.unusedVariables false
set_option linter.unusedSimpArgs false

/-! ### impl_treeEnd: function 39 -/
mutual
def impl_treeEnd.j0 : Nat → List Int → Int → Int → Int → Bool → Option (Int)
  | 0, _, _, _, _, _ => none
  | k + 1, x0, x1, x2, x3, x31 => if x31 = true then (some (-1)) else (if 0 ≤ x1 then (if x1 < (x0.length : Int) then ((impl_treeEnd.f k x0 (wrap64 (x1 + 1)) x2 (wrap64 ((rd x0 x1) - 1))).bind fun t216 => (if t216 < 0 then (some (-1)) else ((impl_treeEnd.f k x0 t216 (wrap64 ((rd x0 x1) + 1)) x3).bind fun t217 => (some t217)))) else (none)) else (none))
def impl_treeEnd.f : Nat → List Int → Int → Int → Int → Option (Int)
  | 0, _, _, _, _ => none
  | k + 1, l0, a1, a2, a3 => if a2 > a3 then (some a1) else (if a1 < 0 then (impl_treeEnd.j0 k l0 a1 a2 a3 true) else (if a1 ≥ (l0.length : Int) then (impl_treeEnd.j0 k l0 a1 a2 a3 true) else (if 0 ≤ a1 then (if a1 < (l0.length : Int) then ((impl_within.f (rd l0 a1) a2 a3).bind fun t214 => (impl_treeEnd.j0 k l0 a1 a2 a3 (!t214))) else (none)) else (none))))
end
theorem impl_treeEnd.mono_l : ∀ k, (∀ y0 y1 y2 y3, LeO (impl_treeEnd.f k y0 y1 y2 y3) (impl_treeEnd.f (k + 1) y0 y1 y2 y3)) ∧ (∀ y0 y1 y2 y3 y4, LeO (impl_treeEnd.j0 k y0 y1 y2 y3 y4) (impl_treeEnd.j0 (k + 1) y0 y1 y2 y3 y4))
  | 0 => ⟨fun _ _ _ _ r h => by simp [impl_treeEnd.f] at h, fun _ _ _ _ _ r h => by simp [impl_treeEnd.j0] at h⟩
  | k + 1 => by
    obtain ⟨ih0, ih1⟩ := impl_treeEnd.mono_l k
    refine ⟨?_, ?_⟩
    · intro y0 y1 y2 y3
      unfold impl_treeEnd.f
      repeat' first
      | (with_reducible exact ih0 _ _ _ _)
      | (with_reducible exact ih1 _ _ _ _ _)
      | (with_reducible exact LeO.refl _)
      | (with_reducible exact LeO.none _)
      | (with_reducible refine LeO.ite ?_ ?_)
      | (with_reducible refine LeO.bind ?_ (fun _ => ?_))
      | exact ih0 _ _ _ _
      | exact ih1 _ _ _ _ _
      | exact LeO.none _
      | refine LeO.ite ?_ ?_
      | refine LeO.bind ?_ (fun _ => ?_)
    · intro y0 y1 y2 y3 y4
      unfold impl_treeEnd.j0
      repeat' first
      | (with_reducible exact ih0 _ _ _ _)
      | (with_reducible exact ih1 _ _ _ _ _)
      | (with_reducible exact LeO.refl _)
      | (with_reducible exact LeO.none _)
      | (with_reducible refine LeO.ite ?_ ?_)
      | (with_reducible refine LeO.bind ?_ (fun _ => ?_))
      | exact ih0 _ _ _ _
      | exact ih1 _ _ _ _ _
      | exact LeO.none _
      | refine LeO.ite ?_ ?_
      | refine LeO.bind ?_ (fun _ => ?_)
theorem impl_treeEnd.mono : ∀ a0 a1 a2 a3 k, LeO (impl_treeEnd.f k a0 a1 a2 a3) (impl_treeEnd.f (k + 1) a0 a1 a2 a3) := by
  intro a0 a1 a2 a3 k
  obtain ⟨ih0, ih1⟩ := impl_treeEnd.mono_l k
  exact ih0 a0 a1 a2 a3
set_option maxHeartbeats 8000000 in
set_option maxRecDepth 100000 in
theorem impl_treeEnd.calls (k : Nat) : ∀ (A0 : Option Addr) (c0 : Nat) (l0 : List Int) (a1 : Int) (a2 : Int) (a3 : Int) (r : Int) (w : World) (hr0 : Kd.C (Kd.int .i64) w A0 l0.length l0) (hc0 : l0.length ≤ c0) (h : impl_treeEnd.f k l0 a1 a2 a3 = some r),
    Calls Try.prog 39 #[.slice A0 l0.length c0, .int .i64 a1, .int .i64 a2, .int .i64 a3] w fun e w' => e = .returned (.int .i64 r) ∧ Drawn0 w w' := by
  induction k using Nat.strongRecOn with
  | _ k ih =>
  intro A0 c0 l0 a1 a2 a3 r w hr0 hc0 h
  cases k with
  | zero => exact absurd h (by simp [impl_treeEnd.f])
  | succ k =>
  simp only [impl_treeEnd.f] at h
  have HR0 := Aside0.mk hr0
  have HC0 := Aside0.mk hc0
  clear hr0 hc0
  have H : (if a2 > a3 then (some a1) else (if a1 < 0 then (impl_treeEnd.j0 k l0 a1 a2 a3 true) else (if a1 ≥ (l0.length : Int) then (impl_treeEnd.j0 k l0 a1 a2 a3 true) else (if 0 ≤ a1 then (if a1 < (l0.length : Int) then ((impl_within.f (rd l0 a1) a2 a3).bind fun t214 => (impl_treeEnd.j0 k l0 a1 a2 a3 (!t214))) else (none)) else (none))))) = some r := h
  clear h
  by_cases c5 : a2 > a3
  · rw [if_pos c5] at H
    have c5b0 : decide (a3 < a2) = true := decide_eq_true c5
    clear c5
    obtain rfl := Option.some.inj H
    go_enter Try.func39, Try.ntmps39
    go_wp2
    go_ret
    exact ⟨by first | rfl | (simp; done) | (simp [*]; done), by repeat (first | exact Drawn0.refl _ | apply Drawn0.step)⟩
  · rw [if_neg c5] at H
    have c5b0 : decide (a3 < a2) = false := decide_eq_false c5
    clear c5
    have HC6 := Aside0.mk H
    clear H
    go_enter Try.func39, Try.ntmps39
    go_upto_region 3 with (fail)
    go_cut [31] (fun v31 wc => ∃ (kq : Nat) (x31_5 : Bool), v31 = .bool x31_5 ∧ Aside0 (impl_treeEnd.j0 kq l0 a1 a2 a3 x31_5 = some r) ∧ Aside0 (kq ≤ k) ∧ Drawn0 w wc)
    case first =>
      have H := HC6.out
      clear HC6
      by_cases c7 : a1 < 0
      · rw [if_pos c7] at H
        have c7b0 : decide (a1 < 0) = true := decide_eq_true c7
        clear c7
        (first | rw [c7b0] | (simp only [i64_w, i32_w]; rw [c7b0]) | skip)
        have H' := Aside0.mk H
        clear H
        go_wp2
        go_meet
        case rel => exact ⟨_, (true), (by first | rfl | (simp; done) | (simp [*]; done)), H', ⟨by first | omega | exact Nat.le_refl _⟩, by repeat (first | exact Drawn0.refl _ | apply Drawn0.step)⟩
      · rw [if_neg c7] at H
        have c7b0 : decide (a1 < 0) = false := decide_eq_false c7
        clear c7
        (first | rw [c7b0] | (simp only [i64_w, i32_w]; rw [c7b0]) | skip)
        by_cases c8 : a1 ≥ (l0.length : Int)
        · rw [if_pos c8] at H
          have c8b0 : decide ((l0.length : Int) ≤ a1) = true := decide_eq_true c8
          clear c8
          have H' := Aside0.mk H
          clear H
          go_wp2
          go_meet
          case rel => exact ⟨_, (true), (by first | rfl | (simp; done) | (simp [*]; done)), H', ⟨by first | omega | exact Nat.le_refl _⟩, by repeat (first | exact Drawn0.refl _ | apply Drawn0.step)⟩
        · rw [if_neg c8] at H
          have c8b0 : decide ((l0.length : Int) ≤ a1) = false := decide_eq_false c8
          clear c8
          by_cases c9 : 0 ≤ a1
          · rw [if_pos c9] at H
            have c9b0 : decide (0 ≤ a1) = true := decide_eq_true c9
            clear c9
            by_cases c10 : a1 < (l0.length : Int)
            · rw [if_pos c10] at H
              have c10b0 : decide (a1 < (l0.length : Int)) = true := decide_eq_true c10
              clear c10
              replace H := Option.bind_eq_some_iff.mp H
              obtain ⟨t214, A110, H⟩ := H
              replace H : (impl_treeEnd.j0 k l0 a1 a2 a3 (!t214)) = some r := H
              have A11 := Aside0.mk A110
              clear A110
              have H' := Aside0.mk H
              clear H
              have p213 : 0 ≤ (a1 : Int) := of_decide_eq_true (by first | (with_reducible assumption) | assumption)
              have q213 : a1 < (l0.length : Int) := of_decide_eq_true (by first | (with_reducible assumption) | assumption)
              obtain ⟨ad213, e213, hx213_0⟩ := Kd.at_int HR0.out a1 p213 q213
              cases e213
              replace p213 := eq_true p213
              replace q213 := eq_true q213
              go_wp2_with (first | (go_at_call 52; (with_reducible refine (impl_within.calls0 (rd l0 a1) a2 a3 t214 _ A11.out).mono ?_); rintro e w' ⟨rfl, rfl⟩))
              go_meet
              case rel => exact ⟨_, (!t214), (by first | rfl | (simp; done) | (simp [*]; done)), H', ⟨by first | omega | exact Nat.le_refl _⟩, by repeat (first | exact Drawn0.refl _ | apply Drawn0.step)⟩
            · rw [if_neg c10] at H
              exact absurd H (by simp)
          · rw [if_neg c9] at H
            exact absurd H (by simp)
    case rest =>
      clear HC6
      try clear c1
      try clear p2
      try clear q2
      try clear hx2
      try clear c3
      try clear c5
      try clear c5b0
      try clear c7
      try clear c7b0
      try clear c8
      try clear c8b0
      try clear c9
      try clear c9b0
      try clear c10
      try clear c10b0
      try clear hx213_0
      try clear p213
      try clear q213
      obtain ⟨kq, x31_5, rfl, HA, HJ5, ⟨mc5, rfl⟩⟩ := hcut
      cases kq with
      | zero => exact absurd HA.out (by simp [impl_treeEnd.j0])
      | succ kj5 =>
        have H := HA.out
        clear HA
        simp only [impl_treeEnd.j0] at H
        by_cases c12 : x31_5 = true
        · subst c12
          have H1 : (some (-1)) = some r := by rw [if_pos rfl] at H; exact H
          clear H
          have H := H1
          clear H1
          obtain rfl := Option.some.inj H
          go_wp2
          go_ret
          exact ⟨by first | rfl | (simp; done) | (simp [*]; done), by repeat (first | exact Drawn0.refl _ | apply Drawn0.step)⟩
        · replace c12 := Bool.eq_false_iff.mpr c12
          subst c12
          have H1 : (if 0 ≤ a1 then (if a1 < (l0.length : Int) then ((impl_treeEnd.f kj5 l0 (wrap64 (a1 + 1)) a2 (wrap64 ((rd l0 a1) - 1))).bind fun t216 => (if t216 < 0 then (some (-1)) else ((impl_treeEnd.f kj5 l0 t216 (wrap64 ((rd l0 a1) + 1)) a3).bind fun t217 => (some t217)))) else (none)) else (none)) = some r := by rw [if_neg (show ¬ (false = true) by decide)] at H; exact H
          clear H
          have H := H1
          clear H1
          by_cases c13 : 0 ≤ a1
          · rw [if_pos c13] at H
            have c13b0 : decide (0 ≤ a1) = true := decide_eq_true c13
            clear c13
            by_cases c14 : a1 < (l0.length : Int)
            · rw [if_pos c14] at H
              have c14b0 : decide (a1 < (l0.length : Int)) = true := decide_eq_true c14
              clear c14
              replace H := Option.bind_eq_some_iff.mp H
              obtain ⟨t216, A150, H⟩ := H
              replace H : (if t216 < 0 then (some (-1)) else ((impl_treeEnd.f kj5 l0 t216 (wrap64 ((rd l0 a1) + 1)) a3).bind fun t217 => (some t217))) = some r := H
              have A15 := Aside0.mk A150
              clear A150
              by_cases c16 : t216 < 0
              · rw [if_pos c16] at H
                have c16b0 : decide (t216 < 0) = true := decide_eq_true c16
                clear c16
                obtain rfl := Option.some.inj H
                have p215 : 0 ≤ (a1 : Int) := of_decide_eq_true (by first | (with_reducible assumption) | assumption)
                have q215 : a1 < (l0.length : Int) := of_decide_eq_true (by first | (with_reducible assumption) | assumption)
                obtain ⟨ad215, e215, hx215_0⟩ := Kd.at_int HR0.out a1 p215 q215
                cases e215
                replace p215 := eq_true p215
                replace q215 := eq_true q215
                go_wp2_with (first | ((with_reducible refine gate_callee (f := 39) rfl ?_); refine goesL_ (some 42) rfl rfl Try.func39 (by kernel_rfl) rfl #[.slice (some ad215) l0.length c0, .int .i64 (wrap64 (a1 + 1)), .int .i64 a2, .int .i64 (wrap64 ((rd l0 a1) - 1))] rfl (by (try simp only [List.map_toArray, List.map_cons, List.map_nil]); first | done | rfl | (simp only [List.length_drop, List.length_take]; rfl)) ?_; (with_reducible refine (ih kj5 (by have := HJ5.out; omega) _ _ l0 (wrap64 (a1 + 1)) a2 (wrap64 ((rd l0 a1) - 1)) t216 _ ?side1 ?side2 A15.out).mono ?_); (case side1 => repeat (first | exact HR0.out | (with_reducible refine Kd.C_alloc ?_ _) | (with_reducible refine Kd.C_drewN ?_ _) | (with_reducible refine Kd.C_drew ?_))); (case side2 => exact HC0.out); rintro e w' ⟨rfl, ⟨nd, rfl⟩⟩; refine ⟨_, rfl, ?_⟩))
                go_ret
                exact ⟨by first | rfl | (simp; done) | (simp [*]; done), by repeat (first | exact Drawn0.refl _ | apply Drawn0.step)⟩
              · rw [if_neg c16] at H
                have c16b0 : decide (t216 < 0) = false := decide_eq_false c16
                clear c16
                replace H := Option.bind_eq_some_iff.mp H
                obtain ⟨t217, A170, H⟩ := H
                replace H : (some t217) = some r := H
                have A17 := Aside0.mk A170
                clear A170
                obtain rfl := Option.some.inj H
                have p215 : 0 ≤ (a1 : Int) := of_decide_eq_true (by first | (with_reducible assumption) | assumption)
                have q215 : a1 < (l0.length : Int) := of_decide_eq_true (by first | (with_reducible assumption) | assumption)
                obtain ⟨ad215, e215, hx215_0⟩ := Kd.at_int HR0.out a1 p215 q215
                cases e215
                replace p215 := eq_true p215
                replace q215 := eq_true q215
                go_wp2_with (first | ((with_reducible refine gate_callee (f := 39) rfl ?_); refine goesL_ (some 42) rfl rfl Try.func39 (by kernel_rfl) rfl #[.slice (some ad215) l0.length c0, .int .i64 (wrap64 (a1 + 1)), .int .i64 a2, .int .i64 (wrap64 ((rd l0 a1) - 1))] rfl (by (try simp only [List.map_toArray, List.map_cons, List.map_nil]); first | done | rfl | (simp only [List.length_drop, List.length_take]; rfl)) ?_; (with_reducible refine (ih kj5 (by have := HJ5.out; omega) _ _ l0 (wrap64 (a1 + 1)) a2 (wrap64 ((rd l0 a1) - 1)) t216 _ ?side1 ?side2 A15.out).mono ?_); (case side1 => repeat (first | exact HR0.out | (with_reducible refine Kd.C_alloc ?_ _) | (with_reducible refine Kd.C_drewN ?_ _) | (with_reducible refine Kd.C_drew ?_))); (case side2 => exact HC0.out); rintro e w' ⟨rfl, ⟨nd, rfl⟩⟩; refine ⟨_, rfl, ?_⟩) | ((with_reducible refine gate_callee (f := 39) rfl ?_); refine goesL_ (some 50) rfl rfl Try.func39 (by kernel_rfl) rfl #[.slice (some ad215) l0.length c0, .int .i64 t216, .int .i64 (wrap64 ((rd l0 a1) + 1)), .int .i64 a3] rfl (by (try simp only [List.map_toArray, List.map_cons, List.map_nil]); first | done | rfl | (simp only [List.length_drop, List.length_take]; rfl)) ?_; (with_reducible refine (ih kj5 (by have := HJ5.out; omega) _ _ l0 t216 (wrap64 ((rd l0 a1) + 1)) a3 t217 _ ?side1 ?side2 A17.out).mono ?_); (case side1 => repeat (first | exact HR0.out | (with_reducible refine Kd.C_alloc ?_ _) | (with_reducible refine Kd.C_drewN ?_ _) | (with_reducible refine Kd.C_drew ?_))); (case side2 => exact HC0.out); rintro e w' ⟨rfl, ⟨nd, rfl⟩⟩; refine ⟨_, rfl, ?_⟩))
                go_ret
                exact ⟨by first | rfl | (simp; done) | (simp [*]; done), by repeat (first | exact Drawn0.refl _ | apply Drawn0.step)⟩
            · rw [if_neg c14] at H
              exact absurd H (by simp)
          · rw [if_neg c13] at H
            exact absurd H (by simp)

/-! behind impl_treeEnd -/
theorem treeEnd_cut (l : List Int) (p n : Nat) (hn : 1 ≤ n) (h : p + n ≤ l.length) : (l.drop p).take n = rd l (p : Int) :: (l.drop (p + 1)).take (n - 1) := by
  obtain ⟨m, rfl⟩ : ∃ m, n = m + 1 := ⟨n - 1, by omega⟩
  rw [List.drop_eq_getElem_cons (by omega : p < l.length), List.take_succ_cons]
  simp [rd, List.getD_eq_getElem?_getD, show p < l.length by omega]
theorem impl_treeEnd_is (l : List Int) (hl : l.length ≤ 1000) : ∀ (n : Nat) (p : Nat) (low high : Int) (k : Nat), high = low + n - 1 → 2 * n + 2 ≤ k → n ≤ 1000 → p ≤ 1000 → 0 ≤ low → low ≤ 1000000 - n →
    impl_treeEnd.f k l (p : Int) low high = some (if p + n ≤ l.length ∧ trOk n low ((l.drop p).take n) = true then ((p + n : Nat) : Int) else if n = 0 then (p : Int) else -1) := by
  intro n
  induction n using Nat.strongRecOn with
  | _ n ih =>
    intro p low high k hh hk hn hp h0 h1
    obtain ⟨k, rfl⟩ : ∃ m, k = m + 1 := ⟨k - 1, by omega⟩
    by_cases hz : n = 0
    · subst hz
      simp only [impl_treeEnd.f]
      rw [if_pos (by omega)]
      split
      · simp
      · simp
    · obtain ⟨k, rfl⟩ : ∃ m, k = m + 1 := ⟨k - 1, by omega⟩
      simp only [impl_treeEnd.f]
      rw [if_neg (by omega), if_neg (by omega)]
      by_cases hpl : (p : Int) ≥ (l.length : Int)
      · rw [if_pos hpl, if_neg (by omega), if_neg hz]
        simp [impl_treeEnd.j0]
      · rw [if_neg hpl, if_pos (by omega), if_pos (by omega), impl_within_is]
        simp only [Option.bind_some, impl_treeEnd.j0]
        generalize hx : rd l (p : Int) = x
        by_cases hw : (decide (low ≤ x) && decide (x ≤ high)) = true
        · rw [hw]
          simp only [Bool.and_eq_true, decide_eq_true_eq] at hw
          have e1 : wrap64 ((p : Int) + 1) = ((p + 1 : Nat) : Int) := by unfold wrap64; omega
          have e2 : wrap64 (x - 1) = x - 1 := by unfold wrap64; omega
          have e3 : wrap64 (x + 1) = x + 1 := by unfold wrap64; omega
          obtain ⟨n1, hn1⟩ : ∃ n1 : Nat, x = low + n1 := ⟨(x - low).toNat, by omega⟩
          obtain ⟨n2, hn2⟩ : ∃ n2 : Nat, n = n1 + n2 + 1 := ⟨n - n1 - 1, by omega⟩
          have i1 := ih n1 (by omega) (p + 1) low (x - 1) k (by omega) (by omega) (by omega) (by omega) h0 (by omega)
          rw [if_neg (by simp), if_pos (by omega), if_pos (by omega), e1, e2, e3, i1]
          simp only [Option.bind_some]
          by_cases hle : p + n ≤ l.length
          · have hcut := treeEnd_cut l p n (by omega) hle
            rw [hx] at hcut
            have hlen : ((l.drop (p + 1)).take (n - 1)).length = n - 1 := by rw [List.length_take, List.length_drop]; omega
            have hgd : trOk n low ((l.drop p).take n) = (trOk n1 low ((l.drop (p + 1)).take n1) && trOk n2 (x + 1) ((l.drop (p + 1 + n1)).take n2)) := by
              rw [hcut]
              obtain ⟨m, rfl⟩ : ∃ m, n = m + 1 := ⟨n - 1, by omega⟩
              simp only [trOk, hlen]
              rw [decide_eq_true hw.1, decide_eq_true (by omega : x ≤ low + ((m + 1 - 1 : Nat) : Int)), show (x - low).toNat = n1 by omega]
              simp only [Bool.true_and]
              rw [List.take_take, Nat.min_eq_left (by omega), List.drop_take, List.drop_drop, show m + 1 - 1 - n1 = n2 by omega]
              rw [trOk_fuel m n1 low _ (by rw [List.length_take]; omega) (by rw [List.length_take]; omega), trOk_fuel m n2 (x + 1) _ (by rw [List.length_take]; omega) (by rw [List.length_take]; omega)]
            by_cases g1 : trOk n1 low ((l.drop (p + 1)).take n1) = true
            · have c1 : p + 1 + n1 ≤ l.length ∧ trOk n1 low ((l.drop (p + 1)).take n1) = true := ⟨by omega, g1⟩
              rw [if_pos c1, if_neg (by omega : ¬ (((p + 1 + n1 : Nat) : Int) < 0))]
              have i2 := ih n2 (by omega) (p + 1 + n1) (x + 1) high k (by omega) (by omega) (by omega) (by omega) (by omega) (by omega)
              rw [i2]
              simp only [Option.bind_some]
              by_cases g2 : trOk n2 (x + 1) ((l.drop (p + 1 + n1)).take n2) = true
              · have c2 : p + 1 + n1 + n2 ≤ l.length ∧ trOk n2 (x + 1) ((l.drop (p + 1 + n1)).take n2) = true := ⟨by omega, g2⟩
                have c3 : p + n ≤ l.length ∧ trOk n low ((l.drop p).take n) = true := ⟨hle, by rw [hgd, g1, g2]; rfl⟩
                rw [if_pos c2, if_pos c3]
                congr 1; omega
              · have c2 : ¬ (p + 1 + n1 + n2 ≤ l.length ∧ trOk n2 (x + 1) ((l.drop (p + 1 + n1)).take n2) = true) := fun h => g2 h.2
                have c3 : ¬ (p + n ≤ l.length ∧ trOk n low ((l.drop p).take n) = true) := fun h => g2 (by have := h.2; rw [hgd, Bool.and_eq_true] at this; exact this.2)
                rw [if_neg c2, if_neg c3]
                by_cases hz2 : n2 = 0
                · subst hz2
                  exact absurd (by simp [trOk]) g2
                · rw [if_neg hz2, if_neg hz]
            · have c1 : ¬ (p + 1 + n1 ≤ l.length ∧ trOk n1 low ((l.drop (p + 1)).take n1) = true) := fun h => g1 h.2
              have c3 : ¬ (p + n ≤ l.length ∧ trOk n low ((l.drop p).take n) = true) := fun h => g1 (by have := h.2; rw [hgd, Bool.and_eq_true] at this; exact this.1)
              rw [if_neg c1]
              by_cases hz1 : n1 = 0
              · subst hz1
                exact absurd (by simp [trOk]) g1
              · rw [if_neg hz1, if_pos (by omega : (-1 : Int) < 0), if_neg c3, if_neg hz]
          · have c3 : ¬ (p + n ≤ l.length ∧ trOk n low ((l.drop p).take n) = true) := fun h => hle h.1
            rw [if_neg c3, if_neg hz]
            by_cases c1 : p + 1 + n1 ≤ l.length ∧ trOk n1 low ((l.drop (p + 1)).take n1) = true
            · rw [if_pos c1, if_neg (by omega : ¬ (((p + 1 + n1 : Nat) : Int) < 0))]
              have i2 := ih n2 (by omega) (p + 1 + n1) (x + 1) high k (by omega) (by omega) (by omega) (by omega) (by omega) (by omega)
              have c2 : ¬ (p + 1 + n1 + n2 ≤ l.length ∧ trOk n2 (x + 1) ((l.drop (p + 1 + n1)).take n2) = true) := fun h => by have := h.1; omega
              rw [i2, if_neg c2, if_neg (by omega : ¬ n2 = 0)]
              rfl
            · rw [if_neg c1]
              by_cases hz1 : n1 = 0
              · subst hz1
                rw [if_pos rfl, if_neg (by omega : ¬ (((p + 1 : Nat) : Int) < 0))]
                have i2 := ih n2 (by omega) (p + 1) (x + 1) high k (by omega) (by omega) (by omega) (by omega) (by omega) (by omega)
                have c2 : ¬ (p + 1 + n2 ≤ l.length ∧ trOk n2 (x + 1) ((l.drop (p + 1)).take n2) = true) := fun h => by have := h.1; omega
                rw [i2, if_neg c2]
                by_cases hz2 : n2 = 0
                · exfalso; omega
                · rw [if_neg hz2]; rfl
              · rw [if_neg hz1, if_pos (by omega : (-1 : Int) < 0)]
        · rw [Bool.eq_false_iff.mpr hw]
          simp only [Bool.not_false, if_true]
          by_cases h : p + n ≤ l.length ∧ trOk n low ((l.drop p).take n) = true
          · exfalso
            have hcut := treeEnd_cut l p n (by omega) h.1
            rw [hx] at hcut
            have hlen : ((l.drop (p + 1)).take (n - 1)).length = n - 1 := by rw [List.length_take, List.length_drop]; omega
            have h2 := h.2
            rw [hcut] at h2
            obtain ⟨m, rfl⟩ : ∃ m, n = m + 1 := ⟨n - 1, by omega⟩
            simp only [trOk, hlen, Bool.and_eq_true, decide_eq_true_eq] at h2
            apply hw
            simp only [Bool.and_eq_true, decide_eq_true_eq]
            omega
          · rw [if_neg h, if_neg hz]

/-! ### impl_IsTree: function 17 -/
def impl_IsTree.f (k : Nat) (l0 : List Int) : Option (Bool) := if (l0.length : Int) ≤ 30 then ((impl_treeEnd.f k l0 0 1 (l0.length : Int)).bind fun t218 => (some (t218 == (l0.length : Int)))) else (some false)
theorem impl_IsTree.mono : ∀ a0 k, LeO (impl_IsTree.f k a0) (impl_IsTree.f (k + 1) a0) := by
  intro a0 k
  unfold impl_IsTree.f
  repeat' first
      | (with_reducible exact impl_treeEnd.mono _ _ _ _ _)
      | (with_reducible exact LeO.refl _)
      | (with_reducible exact LeO.none _)
      | (with_reducible refine LeO.ite ?_ ?_)
      | (with_reducible refine LeO.bind ?_ (fun _ => ?_))
      | exact impl_treeEnd.mono _ _ _ _ _
      | exact LeO.none _
      | refine LeO.ite ?_ ?_
      | refine LeO.bind ?_ (fun _ => ?_)
set_option maxHeartbeats 8000000 in
set_option maxRecDepth 100000 in
theorem impl_IsTree.calls (k : Nat) (A0 : Option Addr) (c0 : Nat) (l0 : List Int) (r : Bool) (w : World) (hr0 : Kd.C (Kd.int .i64) w A0 l0.length l0) (hc0 : l0.length ≤ c0) (h : impl_IsTree.f k l0 = some r) :
    Calls Try.prog 17 #[.slice A0 l0.length c0] w fun e w' => e = .returned (.bool r) ∧ Drawn0 w w' := by
  have HR0 := Aside0.mk hr0
  have HC0 := Aside0.mk hc0
  clear hr0 hc0
  have H : (if (l0.length : Int) ≤ 30 then ((impl_treeEnd.f k l0 0 1 (l0.length : Int)).bind fun t218 => (some (t218 == (l0.length : Int)))) else (some false)) = some r := h
  clear h
  by_cases c2 : (l0.length : Int) ≤ 30
  · rw [if_pos c2] at H
    have c2b0 : decide ((l0.length : Int) ≤ 30) = true := decide_eq_true c2
    have c2b1 : decide (l0.length ≤ 30) = true := decide_eq_true (by omega)
    clear c2
    replace H := Option.bind_eq_some_iff.mp H
    obtain ⟨t218, A30, H⟩ := H
    replace H : (some (t218 == (l0.length : Int))) = some r := H
    have A3 := Aside0.mk A30
    clear A30
    obtain rfl := Option.some.inj H
    go_enter Try.func17, Try.ntmps17
    go_wp2_with (first | (go_at_call 39; (with_reducible refine (impl_treeEnd.calls k _ _ l0 0 1 (l0.length : Int) t218 _ ?side1 ?side2 A3.out).mono ?_); (case side1 => repeat (first | exact HR0.out | (with_reducible refine Kd.C_alloc ?_ _) | (with_reducible refine Kd.C_drewN ?_ _) | (with_reducible refine Kd.C_drew ?_))); (case side2 => exact HC0.out); rintro e w' ⟨rfl, ⟨nd, rfl⟩⟩))
    go_ret
    exact ⟨by first | rfl | (simp; done) | (simp [*]; done), by repeat (first | exact Drawn0.refl _ | apply Drawn0.step)⟩
  · rw [if_neg c2] at H
    have c2b0 : decide ((l0.length : Int) ≤ 30) = false := decide_eq_false c2
    have c2b1 : decide (l0.length ≤ 30) = false := decide_eq_false (by omega)
    clear c2
    obtain rfl := Option.some.inj H
    go_enter Try.func17, Try.ntmps17
    go_wp2
    go_ret
    exact ⟨by first | rfl | (simp; done) | (simp [*]; done), by repeat (first | exact Drawn0.refl _ | apply Drawn0.step)⟩

/-! behind impl_IsTree -/
theorem impl_IsTree_is (l : List Int) (k : Nat) (hk : 100 < k) : impl_IsTree.f k l = some (decide (l.length ≤ 30) && trOk 30 1 l) := by
  unfold impl_IsTree.f
  by_cases h : l.length ≤ 30
  · have e := impl_treeEnd_is l (by omega) l.length 0 1 (l.length : Int) k (by omega) (by omega) (by omega) (by omega) (by omega) (by omega)
    rw [if_pos (by omega)]
    rw [show ((0 : Nat) : Int) = 0 from rfl] at e
    rw [e, decide_eq_true h]
    simp only [Option.bind_some, Bool.true_and, List.drop_zero, List.take_length, Nat.zero_add, Nat.le_refl, true_and]
    rw [trOk_fuel 30 l.length 1 l h (Nat.le_refl _)]
    by_cases g : trOk l.length 1 l = true
    · rw [if_pos g, g]; simp
    · rw [if_neg g, Bool.eq_false_iff.mpr g]
      by_cases hz : l.length = 0
      · exact absurd (by rw [List.length_eq_zero_iff.1 hz]; simp [trOk]) g
      · rw [if_neg hz]; simp <;> omega
  · rw [if_neg (by omega), decide_eq_false h]; rfl
theorem isTree_tr (l : List Int) (h : (decide (l.length ≤ 30) && trOk 30 1 l) = true) : ∃ t : Tr, l = t.toL 1 ∧ t.size ≤ 30 := by
  simp only [Bool.and_eq_true, decide_eq_true_eq] at h
  obtain ⟨t, ht⟩ := trOk_tr 30 1 l h.2
  exact ⟨t, ht, by rw [← Tr.toL_length t 1, ← ht]; exact h.1⟩

/-! ### slices_Clone_int_int: function 50, a contract of our own -/
def slices_Clone_int_int.f (l0 : List Int) : Option (List Int) := if l0.length ≤ 1000000000 then some l0 else none
set_option maxHeartbeats 8000000 in
set_option maxRecDepth 100000 in
theorem slices_Clone_int_int.calls (A0 : Option Addr) (c0 : Nat) (l0 : List Int) (r : List Int) (w : World) (hr0 : Kd.C (Kd.int .i64) w A0 l0.length l0) (hc0 : l0.length ≤ c0) (h : slices_Clone_int_int.f l0 = some r) :
    Calls Try.prog 50 #[.slice A0 l0.length c0] w fun e w' => ∃ v0_ : Value, e = .returned (v0_) ∧ Kd.R (Kd.int .i64) 3 w' w.heap.size (fun _ => True) v0_ r ∧ Below w.heap.size w w' := by
  unfold slices_Clone_int_int.f at h
  by_cases hl : l0.length ≤ 1000000000
  · rw [if_pos hl] at h
    obtain rfl := Option.some.inj h
    clear h
    have HAL := Aside0.mk (show ([] : List Int).length + l0.length < 17592186044416 by simp; omega)
    have HR0 := Aside0.mk hr0
    have HB := Aside0.mk (Below.refl w.heap.size w)
    cases A0 with
    | none =>
      have h0 : l0 = [] := by
        apply List.length_eq_zero_iff.1
        apply Nat.eq_zero_of_not_pos
        intro hp
        obtain ⟨ad, e, _⟩ := Kd.at_int hr0 0 (by omega) (by omega)
        cases e
      subst h0
      have hnil := fun (W : World) => Lib.run_eql_slice_nil (P := Try.prog) W 24 3 none 0 c0 0 0 Try.underlying24
      clear hr0 hc0 hl HR0 HAL
      go_enter Try.func50, Try.ntmps50
      go_wp2
      go_ret
      exact ⟨.slice none 0 0, rfl, Kd.R_nil _ _ _ _ _, Below.refl _ _⟩
    | some ad =>
      have hnil := fun (W : World) => Lib.run_eql_slice_nil (P := Try.prog) W 24 3 (some ad) l0.length c0 0 0 Try.underlying24
      clear hr0 hc0 hl
      go_enter Try.func50, Try.ntmps50
      go_wp2_with (first | ((with_reducible refine gate_dst (N := 5) rfl ?_); refine Kd.R_lit (Kd.int .i64) _ 3 ?hg (N := 5) ?hd (xs := ([] : List Int)) (inner := []) (ok := fun _ => True) (okp := fun _ => True) ?hr ?hp (fun _ hk => hk) trivial (Below.refl _ _) (Nat.le_refl _) (by simp) ?_; (case hd => rfl); (case hg => rfl); (case hr => first | (go_simp; done) | (go_simp; rfl)); (case hp => exact (Reps.none _ _)); intro V5 W5 ho4 hb hg_ hnew_; clear hg_ hnew_; have HO5 := Aside0.mk (Kd.R_lower ho4 (below_size (by repeat (first | (with_reducible first | exact HB.out | apply below_alloc | apply pw_below_drewN | apply below_drew1) | exact HB.out)))); have HB_ := Aside0.mk (below_step (by repeat (first | (with_reducible first | exact HB.out | apply below_alloc | apply pw_below_drewN | apply below_drew1) | exact HB.out)) hb); clear HB hb ho4; have HB := HB_; clear HB_) | ((with_reducible refine gate_builtin (b := .append) (xs := #[.tmp 5, .tmp 6]) rfl ?_); at_builtin; refine Kd.R_append_rows (Kd.int .i64) (w0 := w) w.heap.size rfl (.tmp 5) (.tmp 6) 24 3 (.int .i64 0) 8 rfl Try.underlying24 info3 rfl (by decide) (by omega) V5 ([]) (l0) _ _ _ (fun _ => True) (fun _ => False) rfl rfl ?aO ?aR (fun _ _ h => h) (fun _ h => h.elim) ?aF ?aB ?aS ?aL ?_; (case aR => repeat (first | exact HR0.out | exact (Kd.C_below HR0.out HB.out) | (with_reducible refine Kd.C_alloc ?_ _) | (with_reducible refine Kd.C_drewN ?_ _) | (with_reducible refine Kd.C_drew ?_))); (case aB => exact (by repeat (first | (with_reducible first | exact HB.out | apply below_alloc | apply pw_below_drewN | apply below_drew1) | exact HB.out))); (case aF => exact (fun _ _ => trivial)); (case aO => exact (by (with_reducible repeat (first | apply Kd.R_alloc | apply Kd.R_drewN | apply Kd.R_drew)); exact HO5.out)); (case aS => exact (below_size (by repeat (first | (with_reducible first | exact HB.out | apply below_alloc | apply pw_below_drewN | apply below_drew1) | exact HB.out)))); (case aL => have := HAL.out; omega); intro va_ wa_ ho hb hg hat; have HA_ := Aside0.mk ho; have HB_ := Aside0.mk hb; clear HB HO5 ho hb hg hat; have HB := HB_; clear HB_))
      go_ret
      exact ⟨_, rfl, by have := HA_.out; rw [List.nil_append] at this; exact this, HB.out⟩
  · rw [if_neg hl] at h
    exact absurd h (by simp)


end Go.Proofs.Ytmcjggjkfkkpbaa.PrintA
