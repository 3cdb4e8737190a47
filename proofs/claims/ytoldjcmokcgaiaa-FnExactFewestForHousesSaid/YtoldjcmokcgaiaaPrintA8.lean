-- written by this session's own driver (wip/gen.py) with the kit's print and contracts of our own
import Derived.Test.YtoldjcmokcgaiaaPrintA0
import Derived.Test.YtoldjcmokcgaiaaPrintA4
import Derived.Test.YtoldjcmokcgaiaaPrintA6
import Derived.Test.YtoldjcmokcgaiaaPrintA7
namespace Go.Proofs.Ytoldjcmokcgaiaa.PrintA
open Go.RowKit Go.Proofs.YtoldjcmokcgaiaaLib Go.Proofs.YtoldjcmokcgaiaaW.PrintWords Go.Proofs.YtoldjcmokcgaiaaW.PrintLast Go.Proofs.YtoldjcmokcgaiaaW.PrintMore
attribute [local go_sem] max2_int min2_int max_two min_two max_three min_three max_four min_four   -- for this text's walks alone
set_option linter.unusedVariables false
set_option linter.unusedSimpArgs false

/-! behind spec_hoNeeded -/
theorem spec_hoNeeded_l0 (l : List Int) (hl : l.length ≤ 1000000) : ∀ (d k : Nat) (a : Int) (i : Nat), i ≤ l.length → l.length - i = d → d < k → ∃ r, spec_hoNeeded.l0 k a l (l.length : Int) (i : Int) = some r := by
  intro d
  induction d with
  | zero =>
    intro k a i h1 hd hk
    obtain ⟨k, rfl⟩ : ∃ m, k = m + 1 := ⟨k - 1, by omega⟩
    simp only [spec_hoNeeded.l0]
    rw [if_neg (by omega)]
    exact ⟨_, rfl⟩
  | succ d ih =>
    intro k a i h1 hd hk
    obtain ⟨k, rfl⟩ : ∃ m, k = m + 1 := ⟨k - 1, by omega⟩
    simp only [spec_hoNeeded.l0]
    have e2 : wrap64 ((i : Int) + 1) = ((i + 1 : Nat) : Int) := by unfold wrap64; omega
    rw [if_pos (by omega), if_pos (by omega), if_pos (by omega), e2]
    split
    · exact ih k _ (i + 1) (by omega) (by omega) (by omega)
    · exact ih k _ (i + 1) (by omega) (by omega) (by omega)
theorem spec_hoNeeded_some (l : List Int) (hl : l.length ≤ 1000000) (k : Nat) (hk : l.length < k) : ∃ r, spec_hoNeeded.f k l = some r := by
  unfold spec_hoNeeded.f
  have h := spec_hoNeeded_l0 l hl l.length k 0 0 (by omega) (by omega) hk
  simpa using h

/-! ### spec_hoAsked: function 17 -/
def spec_hoAsked.f (k : Nat) (a0 : Int) (l1 : List Int) : Option (Bool) := (spec_hoGood.f k l1).bind fun t106 => (if t106 = true then ((spec_hoNeeded.f k l1).bind fun t107 => ((spec_l1In.f a0 t107 6).bind fun t108 => (some t108))) else (some false))
theorem spec_hoAsked.mono : ∀ a0 a1 k, LeO (spec_hoAsked.f k a0 a1) (spec_hoAsked.f (k + 1) a0 a1) := by
  intro a0 a1 k
  unfold spec_hoAsked.f
  repeat' first
      | (with_reducible exact spec_hoGood.mono _ _)
      | (with_reducible exact spec_hoNeeded.mono _ _)
      | (with_reducible exact LeO.refl _)
      | (with_reducible exact LeO.none _)
      | (with_reducible refine LeO.ite ?_ ?_)
      | (with_reducible refine LeO.bind ?_ (fun _ => ?_))
      | exact spec_hoGood.mono _ _
      | exact spec_hoNeeded.mono _ _
      | exact LeO.none _
      | refine LeO.ite ?_ ?_
      | refine LeO.bind ?_ (fun _ => ?_)
set_option maxHeartbeats 8000000 in
set_option maxRecDepth 100000 in
theorem spec_hoAsked.calls (k : Nat) (a0 : Int) (A1 : Option Addr) (c1 : Nat) (l1 : List Int) (r : Bool) (w : World) (hr1 : Kd.C (Kd.int .i64) w A1 l1.length l1) (hc1 : l1.length ≤ c1) (h : spec_hoAsked.f k a0 l1 = some r) :
    Calls Try.prog 17 #[.int .i64 a0, .slice A1 l1.length c1] w fun e w' => e = .returned (.bool r) ∧ Drawn0 w w' := by
  have HR1 := Aside0.mk hr1
  have HC1 := Aside0.mk hc1
  clear hr1 hc1
  have H : ((spec_hoGood.f k l1).bind fun t106 => (if t106 = true then ((spec_hoNeeded.f k l1).bind fun t107 => ((spec_l1In.f a0 t107 6).bind fun t108 => (some t108))) else (some false))) = some r := h
  clear h
  replace H := Option.bind_eq_some_iff.mp H
  obtain ⟨t106, A30, H⟩ := H
  replace H : (if t106 = true then ((spec_hoNeeded.f k l1).bind fun t107 => ((spec_l1In.f a0 t107 6).bind fun t108 => (some t108))) else (some false)) = some r := H
  have A3 := Aside0.mk A30
  clear A30
  by_cases c4 : t106 = true
  · subst c4
    have H1 : ((spec_hoNeeded.f k l1).bind fun t107 => ((spec_l1In.f a0 t107 6).bind fun t108 => (some t108))) = some r := by rw [if_pos rfl] at H; exact H
    clear H
    have H := H1
    clear H1
    replace H := Option.bind_eq_some_iff.mp H
    obtain ⟨t107, A50, H⟩ := H
    replace H : ((spec_l1In.f a0 t107 6).bind fun t108 => (some t108)) = some r := H
    have A5 := Aside0.mk A50
    clear A50
    replace H := Option.bind_eq_some_iff.mp H
    obtain ⟨t108, A60, H⟩ := H
    replace H : (some t108) = some r := H
    have A6 := Aside0.mk A60
    clear A60
    obtain rfl := Option.some.inj H
    go_enter Try.func17, Try.ntmps17
    go_wp2_with (first | ((with_reducible refine gate_callee (f := 24) rfl ?_); refine goesL_ (some 6) rfl rfl Try.func24 (by kernel_rfl) rfl #[.slice A1 l1.length c1] rfl (by (try simp only [List.map_toArray, List.map_cons, List.map_nil]); first | done | rfl | (simp only [List.length_drop, List.length_take]; rfl)) ?_; (with_reducible refine (spec_hoGood.calls k _ _ l1 true _ ?side1 ?side2 A3.out).mono ?_); (case side1 => repeat (first | exact HR1.out | (with_reducible refine Kd.C_alloc ?_ _) | (with_reducible refine Kd.C_drewN ?_ _) | (with_reducible refine Kd.C_drew ?_))); (case side2 => exact HC1.out); rintro e w' ⟨rfl, ⟨nd, rfl⟩⟩; refine ⟨_, rfl, ?_⟩) | (go_at_call 25; (with_reducible refine (spec_hoNeeded.calls k _ _ l1 t107 _ ?side1 ?side2 A5.out).mono ?_); (case side1 => repeat (first | exact HR1.out | (with_reducible refine Kd.C_alloc ?_ _) | (with_reducible refine Kd.C_drewN ?_ _) | (with_reducible refine Kd.C_drew ?_))); (case side2 => exact HC1.out); rintro e w' ⟨rfl, ⟨nd, rfl⟩⟩) | (go_at_call 30; (with_reducible refine (spec_l1In.calls0 a0 t107 6 t108 _ A6.out).mono ?_); rintro e w' ⟨rfl, rfl⟩))
    go_ret
    exact ⟨by first | rfl | (simp; done) | (simp [*]; done), by repeat (first | exact Drawn0.refl _ | apply Drawn0.step)⟩
  · replace c4 := Bool.eq_false_iff.mpr c4
    subst c4
    have H1 : (some false) = some r := by rw [if_neg (show ¬ (false = true) by decide)] at H; exact H
    clear H
    have H := H1
    clear H1
    obtain rfl := Option.some.inj H
    go_enter Try.func17, Try.ntmps17
    go_wp2_with (first | ((with_reducible refine gate_callee (f := 24) rfl ?_); refine goesL_ (some 6) rfl rfl Try.func24 (by kernel_rfl) rfl #[.slice A1 l1.length c1] rfl (by (try simp only [List.map_toArray, List.map_cons, List.map_nil]); first | done | rfl | (simp only [List.length_drop, List.length_take]; rfl)) ?_; (with_reducible refine (spec_hoGood.calls k _ _ l1 false _ ?side1 ?side2 A3.out).mono ?_); (case side1 => repeat (first | exact HR1.out | (with_reducible refine Kd.C_alloc ?_ _) | (with_reducible refine Kd.C_drewN ?_ _) | (with_reducible refine Kd.C_drew ?_))); (case side2 => exact HC1.out); rintro e w' ⟨rfl, ⟨nd, rfl⟩⟩; refine ⟨_, rfl, ?_⟩))
    go_ret
    exact ⟨by first | rfl | (simp; done) | (simp [*]; done), by repeat (first | exact Drawn0.refl _ | apply Drawn0.step)⟩

end Go.Proofs.Ytoldjcmokcgaiaa.PrintA
