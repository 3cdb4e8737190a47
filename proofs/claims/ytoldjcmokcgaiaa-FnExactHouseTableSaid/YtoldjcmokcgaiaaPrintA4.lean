-- written by this session's own driver (wip/gen.py) with the kit's print and contracts of our own
import Derived.Test.YtoldjcmokcgaiaaPrintA0
import Derived.Test.YtoldjcmokcgaiaaPrintA3
import Derived.Test.YtoldjcmokcgaiaaPrintA13
namespace Go.Proofs.Ytoldjcmokcgaiaa.PrintA
open Go.RowKit Go.Proofs.YtoldjcmokcgaiaaLib Go.Proofs.YtoldjcmokcgaiaaW.PrintWords Go.Proofs.YtoldjcmokcgaiaaW.PrintLast Go.Proofs.YtoldjcmokcgaiaaW.PrintMore
attribute [local go_sem] max2_int min2_int max_two min_two max_three min_three max_four min_four   -- for this text's walks alone
set_option linter.unusedVariables false
set_option linter.unusedSimpArgs false

/-! behind spec_l1All -/
theorem spec_l1All_l0 (l : List Int) (lo hi : Int) (hl : l.length ≤ 100000000) : ∀ (d k : Nat) (i : Nat), i ≤ l.length → l.length - i = d → d < k →
    spec_l1All.l0 k lo hi l (l.length : Int) (i : Int) = some ((l.drop i).all (fun x => decide (lo ≤ x) && decide (x ≤ hi))) := by
  intro d
  induction d with
  | zero =>
    intro k i h1 hd hk
    obtain ⟨k, rfl⟩ : ∃ m, k = m + 1 := ⟨k - 1, by omega⟩
    obtain rfl : i = l.length := by omega
    simp only [spec_l1All.l0]
    rw [if_neg (by omega)]
    simp
  | succ d ih =>
    intro k i h1 hd hk
    obtain ⟨k, rfl⟩ : ∃ m, k = m + 1 := ⟨k - 1, by omega⟩
    have hlt : i < l.length := by omega
    simp only [spec_l1All.l0]
    have e2 : wrap64 ((i : Int) + 1) = ((i + 1 : Nat) : Int) := by unfold wrap64; omega
    have hr : rd l (i : Int) = l[i] := by simp [rd, List.getD_eq_getElem?_getD, hlt]
    rw [if_pos (by omega), if_pos (by omega), if_pos (by omega), spec_l1In_is, e2, hr, List.drop_eq_getElem_cons hlt, List.all_cons]
    simp only [Option.bind_some]
    by_cases h : (decide (lo ≤ l[i]) && decide (l[i] ≤ hi)) = true
    · rw [if_pos h, h, Bool.true_and]
      exact ih k (i + 1) (by omega) (by omega) (by omega)
    · rw [if_neg h, Bool.eq_false_iff.mpr h, Bool.false_and]
theorem spec_l1All_is (l : List Int) (lo hi : Int) (hl : l.length ≤ 100000000) (k : Nat) (hk : l.length < k) : spec_l1All.f k l lo hi = some (l.all (fun x => decide (lo ≤ x) && decide (x ≤ hi))) := by
  unfold spec_l1All.f
  have h := spec_l1All_l0 l lo hi hl l.length k 0 (by omega) (by omega) hk
  simpa using h

/-! ### spec_hoGood: function 24 -/
def spec_hoGood.f (k : Nat) (l0 : List Int) : Option (Bool) := (spec_l1In.f (l0.length : Int) 1 3).bind fun t103 => (if t103 = true then ((spec_l1All.f k l0 0 8).bind fun t104 => (some t104)) else (some false))
theorem spec_hoGood.mono : ∀ a0 k, LeO (spec_hoGood.f k a0) (spec_hoGood.f (k + 1) a0) := by
  intro a0 k
  unfold spec_hoGood.f
  repeat' first
      | (with_reducible exact spec_l1All.mono _ _ _ _)
      | (with_reducible exact LeO.refl _)
      | (with_reducible exact LeO.none _)
      | (with_reducible refine LeO.ite ?_ ?_)
      | (with_reducible refine LeO.bind ?_ (fun _ => ?_))
      | exact spec_l1All.mono _ _ _ _
      | exact LeO.none _
      | refine LeO.ite ?_ ?_
      | refine LeO.bind ?_ (fun _ => ?_)
set_option maxHeartbeats 8000000 in
set_option maxRecDepth 100000 in
theorem spec_hoGood.calls (k : Nat) (A0 : Option Addr) (c0 : Nat) (l0 : List Int) (r : Bool) (w : World) (hr0 : Kd.C (Kd.int .i64) w A0 l0.length l0) (hc0 : l0.length ≤ c0) (h : spec_hoGood.f k l0 = some r) :
    Calls Try.prog 24 #[.slice A0 l0.length c0] w fun e w' => e = .returned (.bool r) ∧ Drawn0 w w' := by
  have HR0 := Aside0.mk hr0
  have HC0 := Aside0.mk hc0
  clear hr0 hc0
  have H : ((spec_l1In.f (l0.length : Int) 1 3).bind fun t103 => (if t103 = true then ((spec_l1All.f k l0 0 8).bind fun t104 => (some t104)) else (some false))) = some r := h
  clear h
  replace H := Option.bind_eq_some_iff.mp H
  obtain ⟨t103, A20, H⟩ := H
  replace H : (if t103 = true then ((spec_l1All.f k l0 0 8).bind fun t104 => (some t104)) else (some false)) = some r := H
  have A2 := Aside0.mk A20
  clear A20
  by_cases c3 : t103 = true
  · subst c3
    have H1 : ((spec_l1All.f k l0 0 8).bind fun t104 => (some t104)) = some r := by rw [if_pos rfl] at H; exact H
    clear H
    have H := H1
    clear H1
    replace H := Option.bind_eq_some_iff.mp H
    obtain ⟨t104, A40, H⟩ := H
    replace H : (some t104) = some r := H
    have A4 := Aside0.mk A40
    clear A40
    obtain rfl := Option.some.inj H
    go_enter Try.func24, Try.ntmps24
    go_wp2_with (first | ((with_reducible refine gate_callee (f := 30) rfl ?_); refine goesL_ (some 5) rfl rfl Try.func30 (by kernel_rfl) rfl #[.int .i64 (l0.length : Int), .int .i64 1, .int .i64 3] rfl (by (try simp only [List.map_toArray, List.map_cons, List.map_nil]); first | done | rfl | (simp only [List.length_drop, List.length_take]; rfl)) ?_; (with_reducible refine (spec_l1In.calls0 (l0.length : Int) 1 3 true _ A2.out).mono ?_); rintro e w' ⟨rfl, rfl⟩; refine ⟨_, rfl, ?_⟩) | (go_at_call 36; (with_reducible refine (spec_l1All.calls k _ _ l0 0 8 t104 _ ?side1 ?side2 A4.out).mono ?_); (case side1 => repeat (first | exact HR0.out | (with_reducible refine Kd.C_alloc ?_ _) | (with_reducible refine Kd.C_drewN ?_ _) | (with_reducible refine Kd.C_drew ?_))); (case side2 => exact HC0.out); rintro e w' ⟨rfl, ⟨nd, rfl⟩⟩))
    go_ret
    exact ⟨by first | rfl | (simp; done) | (simp [*]; done), by repeat (first | exact Drawn0.refl _ | apply Drawn0.step)⟩
  · replace c3 := Bool.eq_false_iff.mpr c3
    subst c3
    have H1 : (some false) = some r := by rw [if_neg (show ¬ (false = true) by decide)] at H; exact H
    clear H
    have H := H1
    clear H1
    obtain rfl := Option.some.inj H
    go_enter Try.func24, Try.ntmps24
    go_wp2_with (first | ((with_reducible refine gate_callee (f := 30) rfl ?_); refine goesL_ (some 5) rfl rfl Try.func30 (by kernel_rfl) rfl #[.int .i64 (l0.length : Int), .int .i64 1, .int .i64 3] rfl (by (try simp only [List.map_toArray, List.map_cons, List.map_nil]); first | done | rfl | (simp only [List.length_drop, List.length_take]; rfl)) ?_; (with_reducible refine (spec_l1In.calls0 (l0.length : Int) 1 3 false _ A2.out).mono ?_); rintro e w' ⟨rfl, rfl⟩; refine ⟨_, rfl, ?_⟩))
    go_ret
    exact ⟨by first | rfl | (simp; done) | (simp [*]; done), by repeat (first | exact Drawn0.refl _ | apply Drawn0.step)⟩

/-! behind spec_hoGood -/
theorem spec_hoGood_is (l : List Int) (hl : l.length ≤ 1000000) (k : Nat) (hk : l.length < k) : ∃ b, spec_hoGood.f k l = some b ∧ impl_AreHouses.f l = some b ∧ (b = true → 1 ≤ l.length ∧ l.length ≤ 3 ∧ ∀ x ∈ l, 0 ≤ x ∧ x ≤ 8) := by
  unfold spec_hoGood.f impl_AreHouses.f
  rw [spec_l1In_is, if_pos (by omega)]
  simp only [Option.bind_some]
  rw [spec_l1All_is l 0 8 (by omega) k hk]
  simp only [Option.bind_some]
  have e1 : decide ((1 : Int) ≤ (l.length : Int)) = decide (1 ≤ l.length) := by rw [decide_eq_decide]; omega
  have e2 : decide ((l.length : Int) ≤ 3) = decide (l.length ≤ 3) := by rw [decide_eq_decide]; omega
  rw [e1, e2]
  by_cases h : (decide (1 ≤ l.length) && decide (l.length ≤ 3)) = true
  · rw [if_pos h, h]
    refine ⟨_, rfl, by rw [Bool.true_and], fun hb => ?_⟩
    simp only [Bool.and_eq_true, decide_eq_true_eq] at h
    rw [List.all_eq_true] at hb
    refine ⟨h.1, h.2, fun x hx => ?_⟩
    have := hb x hx
    simpa using this
  · rw [if_neg h, Bool.eq_false_iff.mpr h]
    exact ⟨false, rfl, by rw [Bool.false_and], fun hb => by cases hb⟩

end Go.Proofs.Ytoldjcmokcgaiaa.PrintA
