-- written by this session's own driver (wip/gen.py) with the kit's print and contracts of our own
import Derived.Test.YtadckogplkabcaaPrintA0
import Derived.Test.YtadckogplkabcaaPrintA3
import Derived.Test.YtadckogplkabcaaPrintA12
namespace Go.Proofs.Ytadckogplkabcaa.PrintA
open Go.RowKit Go.Proofs.YtadckogplkabcaaW.PrintWords Go.Proofs.YtadckogplkabcaaW.PrintLast Go.Proofs.YtadckogplkabcaaW.PrintMore
attribute [local go_sem] max2_int min2_int max_two min_two max_three min_three max_four min_four   -- for this text's walks alone
set_option linter.unusedVariables false
set_option linter.unusedSimpArgs false

/-! behind spec_hoCount -/
theorem spec_hoCount_l0 (l : List Int) (hl : l.length ≤ 1000000) : ∀ (d k : Nat) (a : Int) (i : Nat), i ≤ l.length → l.length - i = d → d < k → ∃ r, spec_hoCount.l0 k a l (l.length : Int) (i : Int) = some r := by
  intro d
  induction d with
  | zero =>
    intro k a i h1 hd hk
    obtain ⟨k, rfl⟩ : ∃ m, k = m + 1 := ⟨k - 1, by omega⟩
    simp only [spec_hoCount.l0]
    rw [if_neg (by omega)]
    exact ⟨_, rfl⟩
  | succ d ih =>
    intro k a i h1 hd hk
    obtain ⟨k, rfl⟩ : ∃ m, k = m + 1 := ⟨k - 1, by omega⟩
    simp only [spec_hoCount.l0]
    have e2 : wrap64 ((i : Int) + 1) = ((i + 1 : Nat) : Int) := by unfold wrap64; omega
    rw [if_pos (by omega), if_pos (by omega), if_pos (by omega), e2]
    exact ih k _ (i + 1) (by omega) (by omega) (by omega)
theorem spec_hoCount_some (l : List Int) (hl : l.length ≤ 1000000) (k : Nat) (hk : l.length < k) : ∃ r, spec_hoCount.f k l = some r := by
  unfold spec_hoCount.f
  have h := spec_hoCount_l0 l hl l.length k 1 0 (by omega) (by omega) hk
  simpa using h
theorem ho_mul (a b x y : Int) (h0 : 0 ≤ a) (h1 : a ≤ x) (h2 : 0 ≤ b) (h3 : b ≤ y) : 0 ≤ a * b ∧ a * b ≤ x * y := ⟨Int.mul_nonneg h0 h2, Int.mul_le_mul h1 h3 h2 (by omega)⟩
theorem spec_hoCount_small (l : List Int) (h1 : 1 ≤ l.length) (h3 : l.length ≤ 3) (hx : ∀ x ∈ l, 0 ≤ x ∧ x ≤ 8) : ∃ t, t ≤ 729 ∧ ∀ k, 4 ≤ k → spec_hoCount.f k l = some t := by
  have key : ∃ t, t ≤ 729 ∧ spec_hoCount.f 4 l = some t := by
    match l, h1, h3, hx with
    | [a], _, _, hx =>
      have ha := hx a (by simp)
      have e : wrap64 (1 * wrap64 (a + 1)) = a + 1 := by unfold wrap64; omega
      refine ⟨a + 1, by omega, ?_⟩
      simp [spec_hoCount.f, spec_hoCount.l0, rd, (show wrap64 (0 + 1) = 1 by unfold wrap64; omega), (show wrap64 1 = 1 by unfold wrap64; omega)]
      unfold wrap64; omega
    | [a, b], _, _, hx =>
      have ha := hx a (by simp)
      have hb := hx b (by simp)
      obtain ⟨m1, m2⟩ := ho_mul (a + 1) (b + 1) 9 9 (by omega) (by omega) (by omega) (by omega)
      refine ⟨(a + 1) * (b + 1), by omega, ?_⟩
      have e1 : wrap64 (a + 1) = a + 1 := by unfold wrap64; omega
      have e2 : wrap64 (b + 1) = b + 1 := by unfold wrap64; omega
      simp [spec_hoCount.f, spec_hoCount.l0, rd, (show wrap64 (0 + 1) = 1 by unfold wrap64; omega), (show wrap64 1 = 1 by unfold wrap64; omega), (show wrap64 (1 + 1) = 2 by unfold wrap64; omega), (show wrap64 2 = 2 by unfold wrap64; omega), e1, e2]
      generalize (a + 1) * (b + 1) = q at m1 m2
      unfold wrap64; omega
    | [a, b, c], _, _, hx =>
      have ha := hx a (by simp)
      have hb := hx b (by simp)
      have hc := hx c (by simp)
      obtain ⟨m1, m2⟩ := ho_mul (a + 1) (b + 1) 9 9 (by omega) (by omega) (by omega) (by omega)
      obtain ⟨n1, n2⟩ := ho_mul ((a + 1) * (b + 1)) (c + 1) (9 * 9) 9 m1 m2 (by omega) (by omega)
      refine ⟨(a + 1) * (b + 1) * (c + 1), by omega, ?_⟩
      have e1 : wrap64 (a + 1) = a + 1 := by unfold wrap64; omega
      have e2 : wrap64 (b + 1) = b + 1 := by unfold wrap64; omega
      have e3 : wrap64 (c + 1) = c + 1 := by unfold wrap64; omega
      have e4 : wrap64 ((a + 1) * (b + 1)) = (a + 1) * (b + 1) := by generalize (a + 1) * (b + 1) = q at m1 m2; unfold wrap64; omega
      simp [spec_hoCount.f, spec_hoCount.l0, rd, (show wrap64 (0 + 1) = 1 by unfold wrap64; omega), (show wrap64 1 = 1 by unfold wrap64; omega), (show wrap64 (1 + 1) = 2 by unfold wrap64; omega), (show wrap64 2 = 2 by unfold wrap64; omega), (show wrap64 (2 + 1) = 3 by unfold wrap64; omega), (show wrap64 3 = 3 by unfold wrap64; omega), e1, e2, e3, e4]
      generalize (a + 1) * (b + 1) * (c + 1) = q at n1 n2
      unfold wrap64; omega
  obtain ⟨t, ht, h⟩ := key
  exact ⟨t, ht, fun k hk => at_rounds (spec_hoCount.mono l) hk h⟩

/-! ### spec_CountHouseBreaks: function 13 -/
def spec_CountHouseBreaks.f (k : Nat) (l0 : List Int) : Option (Int × Bool) := (spec_hoGood.f k l0).bind fun t119 => (if t119 = true then ((spec_hoCount.f k l0).bind fun t120 => (some (t120, true))) else (some (0, false)))
theorem spec_CountHouseBreaks.mono : ∀ a0 k, LeO (spec_CountHouseBreaks.f k a0) (spec_CountHouseBreaks.f (k + 1) a0) := by
  intro a0 k
  unfold spec_CountHouseBreaks.f
  repeat' first
      | (with_reducible exact spec_hoCount.mono _ _)
      | (with_reducible exact spec_hoGood.mono _ _)
      | (with_reducible exact LeO.refl _)
      | (with_reducible exact LeO.none _)
      | (with_reducible refine LeO.ite ?_ ?_)
      | (with_reducible refine LeO.bind ?_ (fun _ => ?_))
      | exact spec_hoCount.mono _ _
      | exact spec_hoGood.mono _ _
      | exact LeO.none _
      | refine LeO.ite ?_ ?_
      | refine LeO.bind ?_ (fun _ => ?_)
set_option maxHeartbeats 8000000 in
set_option maxRecDepth 100000 in
theorem spec_CountHouseBreaks.calls (k : Nat) (A0 : Option Addr) (c0 : Nat) (l0 : List Int) (r1 : Int) (r2 : Bool) (w : World) (hr0 : Kd.C (Kd.int .i64) w A0 l0.length l0) (hc0 : l0.length ≤ c0) (h : spec_CountHouseBreaks.f k l0 = some (r1, r2)) :
    Calls Try.prog 13 #[.slice A0 l0.length c0] w fun e w' => e = .returned (.tuple #[.int .i64 r1, .bool r2]) ∧ Drawn0 w w' := by
  have HR0 := Aside0.mk hr0
  have HC0 := Aside0.mk hc0
  clear hr0 hc0
  have H : ((spec_hoGood.f k l0).bind fun t119 => (if t119 = true then ((spec_hoCount.f k l0).bind fun t120 => (some (t120, true))) else (some (0, false)))) = some (r1, r2) := h
  clear h
  replace H := Option.bind_eq_some_iff.mp H
  obtain ⟨t119, A20, H⟩ := H
  replace H : (if t119 = true then ((spec_hoCount.f k l0).bind fun t120 => (some (t120, true))) else (some (0, false))) = some (r1, r2) := H
  have A2 := Aside0.mk A20
  clear A20
  by_cases c3 : t119 = true
  · subst c3
    have H1 : ((spec_hoCount.f k l0).bind fun t120 => (some (t120, true))) = some (r1, r2) := by rw [if_pos rfl] at H; exact H
    clear H
    have H := H1
    clear H1
    replace H := Option.bind_eq_some_iff.mp H
    obtain ⟨t120, A40, H⟩ := H
    replace H : (some (t120, true)) = some (r1, r2) := H
    have A4 := Aside0.mk A40
    clear A40
    simp only [Option.some.injEq, Prod.mk.injEq] at H
    obtain ⟨rfl, rfl⟩ := H
    go_enter Try.func13, Try.ntmps13
    go_wp2_with (first | ((with_reducible refine gate_callee (f := 24) rfl ?_); refine goesL_ (some 5) rfl rfl Try.func24 (by kernel_rfl) rfl #[.slice A0 l0.length c0] rfl (by (try simp only [List.map_toArray, List.map_cons, List.map_nil]); first | done | rfl | (simp only [List.length_drop, List.length_take]; rfl)) ?_; (with_reducible refine (spec_hoGood.calls k _ _ l0 true _ ?side1 ?side2 A2.out).mono ?_); (case side1 => repeat (first | exact HR0.out | (with_reducible refine Kd.C_alloc ?_ _) | (with_reducible refine Kd.C_drewN ?_ _) | (with_reducible refine Kd.C_drew ?_))); (case side2 => exact HC0.out); rintro e w' ⟨rfl, ⟨nd, rfl⟩⟩; refine ⟨_, rfl, ?_⟩) | ((with_reducible refine gate_callee (f := 30) rfl ?_); refine goesL_ (some 8) rfl rfl Try.func30 (by kernel_rfl) rfl #[.slice A0 l0.length c0] rfl (by (try simp only [List.map_toArray, List.map_cons, List.map_nil]); first | done | rfl | (simp only [List.length_drop, List.length_take]; rfl)) ?_; (with_reducible refine (spec_hoCount.calls k _ _ l0 t120 _ ?side1 ?side2 A4.out).mono ?_); (case side1 => repeat (first | exact HR0.out | (with_reducible refine Kd.C_alloc ?_ _) | (with_reducible refine Kd.C_drewN ?_ _) | (with_reducible refine Kd.C_drew ?_))); (case side2 => exact HC0.out); rintro e w' ⟨rfl, ⟨nd, rfl⟩⟩; refine ⟨_, rfl, ?_⟩))
    go_ret2
    exact ⟨by first | rfl | (simp; done) | (simp [*]; done), by repeat (first | exact Drawn0.refl _ | apply Drawn0.step)⟩
  · replace c3 := Bool.eq_false_iff.mpr c3
    subst c3
    have H1 : (some (0, false)) = some (r1, r2) := by rw [if_neg (show ¬ (false = true) by decide)] at H; exact H
    clear H
    have H := H1
    clear H1
    simp only [Option.some.injEq, Prod.mk.injEq] at H
    obtain ⟨rfl, rfl⟩ := H
    go_enter Try.func13, Try.ntmps13
    go_wp2_with (first | ((with_reducible refine gate_callee (f := 24) rfl ?_); refine goesL_ (some 5) rfl rfl Try.func24 (by kernel_rfl) rfl #[.slice A0 l0.length c0] rfl (by (try simp only [List.map_toArray, List.map_cons, List.map_nil]); first | done | rfl | (simp only [List.length_drop, List.length_take]; rfl)) ?_; (with_reducible refine (spec_hoGood.calls k _ _ l0 false _ ?side1 ?side2 A2.out).mono ?_); (case side1 => repeat (first | exact HR0.out | (with_reducible refine Kd.C_alloc ?_ _) | (with_reducible refine Kd.C_drewN ?_ _) | (with_reducible refine Kd.C_drew ?_))); (case side2 => exact HC0.out); rintro e w' ⟨rfl, ⟨nd, rfl⟩⟩; refine ⟨_, rfl, ?_⟩))
    go_ret2
    exact ⟨by first | rfl | (simp; done) | (simp [*]; done), by repeat (first | exact Drawn0.refl _ | apply Drawn0.step)⟩

end Go.Proofs.Ytadckogplkabcaa.PrintA
