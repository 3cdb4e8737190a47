-- written by this session's own driver (wip/gen.py) with the kit's print and contracts of our own
import Derived.Test.YtmcjggjkfkkpbaaPrintA0
import Derived.Test.YtmcjggjkfkkpbaaPrintA3
import Derived.Test.YtmcjggjkfkkpbaaPrintA4
import Derived.Test.YtmcjggjkfkkpbaaPrintA5
import Derived.Test.YtmcjggjkfkkpbaaPrintA6
import Derived.Test.YtmcjggjkfkkpbaaPrintA7
import Derived.Test.YtmcjggjkfkkpbaaPrintA9
import Derived.Test.YtmcjggjkfkkpbaaPrintA10
import Derived.Test.YtmcjggjkfkkpbaaPrintA13
import Derived.Test.YtmcjggjkfkkpbaaPrintA15
import Derived.Test.YtmcjggjkfkkpbaaPrintA17
import Derived.Test.YtmcjggjkfkkpbaaPrintA18
import Derived.Test.YtmcjggjkfkkpbaaPrintA19
namespace Go.Proofs.Ytmcjggjkfkkpbaa.PrintA
open Go.RowKit Go.Proofs.YtmcjggjkfkkpbaaLib Go.Proofs.YtmcjggjkfkkpbaaW.PrintWords Go.Proofs.YtmcjggjkfkkpbaaW.PrintLast Go.Proofs.YtmcjggjkfkkpbaaW.PrintMore
attribute [local go_sem] max2_int min2_int max_two min_two max_three min_three max_four min_four   -- for this text's walks alone
set_option linter.unusedVariables false
set_option linter.unusedSimpArgs false

/-! ### spec_IsTree: function 18 -/
def spec_IsTree.f (k : Nat) (l0 : List Int) : Option (Bool) := (spec_trIs.f k l0).bind fun t369 => (some t369)
theorem spec_IsTree.mono : ∀ a0 k, LeO (spec_IsTree.f k a0) (spec_IsTree.f (k + 1) a0) := by
  intro a0 k
  unfold spec_IsTree.f
  repeat' first
      | (with_reducible exact spec_trIs.mono _ _)
      | (with_reducible exact LeO.refl _)
      | (with_reducible exact LeO.none _)
      | (with_reducible refine LeO.ite ?_ ?_)
      | (with_reducible refine LeO.bind ?_ (fun _ => ?_))
      | exact spec_trIs.mono _ _
      | exact LeO.none _
      | refine LeO.ite ?_ ?_
      | refine LeO.bind ?_ (fun _ => ?_)
set_option maxHeartbeats 8000000 in
set_option maxRecDepth 100000 in
theorem spec_IsTree.calls (k : Nat) (A0 : Option Addr) (c0 : Nat) (l0 : List Int) (r : Bool) (w : World) (hr0 : Kd.C (Kd.int .i64) w A0 l0.length l0) (hc0 : l0.length ≤ c0) (h : spec_IsTree.f k l0 = some r) :
    Calls Try.prog 18 #[.slice A0 l0.length c0] w fun e w' => e = .returned (.bool r) ∧ Below w.heap.size w w' := by
  have HR0 := Aside0.mk hr0
  have HC0 := Aside0.mk hc0
  clear hr0 hc0
  have HB := Aside0.mk (Below.refl w.heap.size w)
  have H : ((spec_trIs.f k l0).bind fun t369 => (some t369)) = some r := h
  clear h
  replace H := Option.bind_eq_some_iff.mp H
  obtain ⟨t369, A20, H⟩ := H
  replace H : (some t369) = some r := H
  have A2 := Aside0.mk A20
  clear A20
  obtain rfl := Option.some.inj H
  go_enter Try.func18, Try.ntmps18
  go_wp2_with (first | ((with_reducible refine gate_callee (f := 30) rfl ?_); refine goesL_ (some 4) rfl rfl Try.func30 (by kernel_rfl) rfl #[.slice A0 l0.length c0] rfl (by (try simp only [List.map_toArray, List.map_cons, List.map_nil]); first | done | rfl | (simp only [List.length_drop, List.length_take]; rfl)) ?_; (with_reducible refine (spec_trIs.calls k _ _ l0 t369 _ ?side1 ?side2 A2.out).mono ?_); (case side1 => repeat (first | exact HR0.out | (with_reducible refine Kd.C_alloc ?_ _) | (with_reducible refine Kd.C_drewN ?_ _) | (with_reducible refine Kd.C_drew ?_))); (case side2 => exact HC0.out); rintro e w3 ⟨rfl, hb⟩; refine ⟨_, rfl, ?_⟩; have n0_ := Aside0.mk (below_step (by repeat (first | (with_reducible first | exact HB.out | apply below_alloc | apply pw_below_drewN | apply below_drew1) | exact HB.out)) hb); clear HB; have HB := n0_; clear n0_; (try clear hb); (try clear hb2); (try clear hk); (try clear hi)))
  go_ret
  exact ⟨by first | rfl | (simp [errW_none, errW_some] <;> rfl) | (simp [*, errW_none, errW_some] <;> rfl), by repeat (first | (with_reducible first | exact HB.out | apply below_alloc | apply pw_below_drewN | apply below_drew1) | exact HB.out)⟩

/-! ### impl_isBreak: function 40 -/
def impl_isBreak.f (a0 : Int) (a1 : Int) : Option (Bool) := (impl_within.f a1 0 a0).bind fun t370 => (some t370)
set_option maxHeartbeats 8000000 in
set_option maxRecDepth 100000 in
theorem impl_isBreak.calls (a0 : Int) (a1 : Int) (r : Bool) (w : World) (h : impl_isBreak.f a0 a1 = some r) :
    Calls Try.prog 40 #[.int .i64 a0, .int .i64 a1] w fun e w' => e = .returned (.bool r) ∧ Drawn0 w w' := by
  have H : ((impl_within.f a1 0 a0).bind fun t370 => (some t370)) = some r := h
  clear h
  replace H := Option.bind_eq_some_iff.mp H
  obtain ⟨t370, A30, H⟩ := H
  replace H : (some t370) = some r := H
  have A3 := Aside0.mk A30
  clear A30
  obtain rfl := Option.some.inj H
  go_enter Try.func40, Try.ntmps40
  go_wp2_with (first | ((with_reducible refine gate_callee (f := 52) rfl ?_); refine goesL_ (some 7) rfl rfl Try.func52 (by kernel_rfl) rfl #[.int .i64 a1, .int .i64 0, .int .i64 a0] rfl (by (try simp only [List.map_toArray, List.map_cons, List.map_nil]); first | done | rfl | (simp only [List.length_drop, List.length_take]; rfl)) ?_; (with_reducible refine (impl_within.calls0 a1 0 a0 t370 _ A3.out).mono ?_); rintro e w' ⟨rfl, rfl⟩; refine ⟨_, rfl, ?_⟩))
  go_ret
  exact ⟨by first | rfl | (simp; done) | (simp [*]; done), by repeat (first | exact Drawn0.refl _ | apply Drawn0.step)⟩

set_option maxHeartbeats 8000000 in
set_option maxRecDepth 100000 in
theorem impl_isBreak.calls0 (a0 : Int) (a1 : Int) (r : Bool) (w : World) (h : impl_isBreak.f a0 a1 = some r) :
    Calls Try.prog 40 #[.int .i64 a0, .int .i64 a1] w fun e w' => e = .returned (.bool r) ∧ w = w' := by
  have H : ((impl_within.f a1 0 a0).bind fun t370 => (some t370)) = some r := h
  clear h
  replace H := Option.bind_eq_some_iff.mp H
  obtain ⟨t370, A30, H⟩ := H
  replace H : (some t370) = some r := H
  have A3 := Aside0.mk A30
  clear A30
  obtain rfl := Option.some.inj H
  go_enter Try.func40, Try.ntmps40
  go_wp2_with (first | ((with_reducible refine gate_callee (f := 52) rfl ?_); refine goesL_ (some 7) rfl rfl Try.func52 (by kernel_rfl) rfl #[.int .i64 a1, .int .i64 0, .int .i64 a0] rfl (by (try simp only [List.map_toArray, List.map_cons, List.map_nil]); first | done | rfl | (simp only [List.length_drop, List.length_take]; rfl)) ?_; (with_reducible refine (impl_within.calls0 a1 0 a0 t370 _ A3.out).mono ?_); rintro e w' ⟨rfl, rfl⟩; refine ⟨_, rfl, ?_⟩))
  go_ret
  exact ⟨by first | rfl | (simp; done) | (simp [*]; done), by first | rfl | simp⟩

/-! behind impl_isBreak -/
theorem impl_isBreak_is (a b : Int) : impl_isBreak.f a b = some (decide (0 ≤ b) && decide (b ≤ a)) := by unfold impl_isBreak.f; rw [impl_within_is]; rfl

/-! ### impl_TreeDrops: function 19 -/
def impl_TreeDrops.f (k : Nat) (l0 : List Int) (a1 : Int) : Option ((List (S42)) × Bool) := (impl_IsTree.f k l0).bind fun t371 => (if t371 = true then ((impl_isBreak.f (l0.length : Int) a1).bind fun t372 => (if t372 = true then ((impl_treeDrops.f k l0 a1).bind fun t373 => (some (t373, true))) else (some (([] : List (S42)), false)))) else (some (([] : List (S42)), false)))
theorem impl_TreeDrops.mono : ∀ a0 a1 k, LeO (impl_TreeDrops.f k a0 a1) (impl_TreeDrops.f (k + 1) a0 a1) := by
  intro a0 a1 k
  unfold impl_TreeDrops.f
  repeat' first
      | (with_reducible exact impl_IsTree.mono _ _)
      | (with_reducible exact impl_treeDrops.mono _ _ _)
      | (with_reducible exact LeO.refl _)
      | (with_reducible exact LeO.none _)
      | (with_reducible refine LeO.ite ?_ ?_)
      | (with_reducible refine LeO.bind ?_ (fun _ => ?_))
      | exact impl_IsTree.mono _ _
      | exact impl_treeDrops.mono _ _ _
      | exact LeO.none _
      | refine LeO.ite ?_ ?_
      | refine LeO.bind ?_ (fun _ => ?_)
set_option maxHeartbeats 8000000 in
set_option maxRecDepth 100000 in
theorem impl_TreeDrops.calls (k : Nat) (A0 : Option Addr) (c0 : Nat) (l0 : List Int) (a1 : Int) (r1 : List (S42)) (r2 : Bool) (w : World) (hr0 : Kd.C (Kd.int .i64) w A0 l0.length l0) (hc0 : l0.length ≤ c0) (h : impl_TreeDrops.f k l0 a1 = some (r1, r2)) :
    Calls Try.prog 19 #[.slice A0 l0.length c0, .int .i64 a1] w fun e w' => ∃ v0_ : Value, e = .returned (.tuple #[v0_, .bool r2]) ∧ Kd.R k42 42 w' w.heap.size (fun _ => True) v0_ r1 ∧ Below w.heap.size w w' := by
  have HR0 := Aside0.mk hr0
  have HC0 := Aside0.mk hc0
  clear hr0 hc0
  have HB := Aside0.mk (Below.refl w.heap.size w)
  have H : ((impl_IsTree.f k l0).bind fun t371 => (if t371 = true then ((impl_isBreak.f (l0.length : Int) a1).bind fun t372 => (if t372 = true then ((impl_treeDrops.f k l0 a1).bind fun t373 => (some (t373, true))) else (some (([] : List (S42)), false)))) else (some (([] : List (S42)), false)))) = some (r1, r2) := h
  clear h
  replace H := Option.bind_eq_some_iff.mp H
  obtain ⟨t371, A30, H⟩ := H
  replace H : (if t371 = true then ((impl_isBreak.f (l0.length : Int) a1).bind fun t372 => (if t372 = true then ((impl_treeDrops.f k l0 a1).bind fun t373 => (some (t373, true))) else (some (([] : List (S42)), false)))) else (some (([] : List (S42)), false))) = some (r1, r2) := H
  have A3 := Aside0.mk A30
  clear A30
  by_cases c4 : t371 = true
  · subst c4
    have H1 : ((impl_isBreak.f (l0.length : Int) a1).bind fun t372 => (if t372 = true then ((impl_treeDrops.f k l0 a1).bind fun t373 => (some (t373, true))) else (some (([] : List (S42)), false)))) = some (r1, r2) := by rw [if_pos rfl] at H; exact H
    clear H
    have H := H1
    clear H1
    replace H := Option.bind_eq_some_iff.mp H
    obtain ⟨t372, A50, H⟩ := H
    replace H : (if t372 = true then ((impl_treeDrops.f k l0 a1).bind fun t373 => (some (t373, true))) else (some (([] : List (S42)), false))) = some (r1, r2) := H
    have A5 := Aside0.mk A50
    clear A50
    by_cases c6 : t372 = true
    · subst c6
      have H1 : ((impl_treeDrops.f k l0 a1).bind fun t373 => (some (t373, true))) = some (r1, r2) := by rw [if_pos rfl] at H; exact H
      clear H
      have H := H1
      clear H1
      replace H := Option.bind_eq_some_iff.mp H
      obtain ⟨t373, A70, H⟩ := H
      replace H : (some (t373, true)) = some (r1, r2) := H
      have A7 := Aside0.mk A70
      clear A70
      simp only [Option.some.injEq, Prod.mk.injEq] at H
      obtain ⟨rfl, rfl⟩ := H
      go_enter Try.func19, Try.ntmps19
      go_wp2_with (first | ((with_reducible refine gate_callee (f := 17) rfl ?_); refine goesL_ (some 7) rfl rfl Try.func17 (by kernel_rfl) rfl #[.slice A0 l0.length c0] rfl (by (try simp only [List.map_toArray, List.map_cons, List.map_nil]); first | done | rfl | (simp only [List.length_drop, List.length_take]; rfl)) ?_; (with_reducible refine (impl_IsTree.calls k _ _ l0 true _ ?side1 ?side2 A3.out).mono ?_); (case side1 => repeat (first | exact HR0.out | (with_reducible refine Kd.C_alloc ?_ _) | (with_reducible refine Kd.C_drewN ?_ _) | (with_reducible refine Kd.C_drew ?_))); (case side2 => exact HC0.out); rintro e w' ⟨rfl, ⟨nd, rfl⟩⟩; refine ⟨_, rfl, ?_⟩) | (go_at_call 40; (with_reducible refine (impl_isBreak.calls0 (l0.length : Int) a1 true _ A5.out).mono ?_); rintro e w' ⟨rfl, rfl⟩) | ((with_reducible refine gate_callee (f := 32) rfl ?_); refine goesL_ (some 18) rfl rfl Try.func32 (by kernel_rfl) rfl #[.slice A0 l0.length c0, .int .i64 a1] rfl (by (try simp only [List.map_toArray, List.map_cons, List.map_nil]); first | done | rfl | (simp only [List.length_drop, List.length_take]; rfl)) ?_; (with_reducible refine (impl_treeDrops.calls k (fun k_ => k_ < w.heap.size) _ _ l0 a1 t373 _ ?side1 A7.out).mono ?_); (case side1 => exact Kd.V_mk HC0.out (Kd.F_below (Kd.C_F (Kd.heap_int .i64) HR0.out) (by repeat (first | (with_reducible first | exact HB.out | apply below_alloc | apply pw_below_drewN | apply below_drew1) | exact HB.out)))); rintro e w8 ⟨v374, rfl, ho0, hb⟩; refine ⟨_, rfl, ?_⟩; have n0_ := Aside0.mk (Kd.R_lower (Kd.R_mono (ok' := fun k_ => True) ho0 (fun _ hk_ => trivial)) (below_size (by repeat (first | (with_reducible first | exact HB.out | apply below_alloc | apply pw_below_drewN | apply below_drew1) | exact HB.out)))); have n1_ := Aside0.mk (below_step (by repeat (first | (with_reducible first | exact HB.out | apply below_alloc | apply pw_below_drewN | apply below_drew1) | exact HB.out)) hb); clear HB; have HO375 := n0_; have HB := n1_; clear n0_ n1_; (try clear hb); (try clear hb2); (try clear hk); (try clear hi); (try clear ho0)))
      go_ret2
      exact ⟨_, by first | rfl | (simp [errW_none, errW_some] <;> rfl) | (simp [*, errW_none, errW_some] <;> rfl), by (with_reducible repeat (first | apply Kd.R_alloc | apply Kd.R_drewN | apply Kd.R_drew)); exact HO375.out, by repeat (first | (with_reducible first | exact HB.out | apply below_alloc | apply pw_below_drewN | apply below_drew1) | exact HB.out)⟩
    · replace c6 := Bool.eq_false_iff.mpr c6
      subst c6
      have H1 : (some (([] : List (S42)), false)) = some (r1, r2) := by rw [if_neg (show ¬ (false = true) by decide)] at H; exact H
      clear H
      have H := H1
      clear H1
      simp only [Option.some.injEq, Prod.mk.injEq] at H
      obtain ⟨rfl, rfl⟩ := H
      go_enter Try.func19, Try.ntmps19
      go_wp2_with (first | ((with_reducible refine gate_callee (f := 17) rfl ?_); refine goesL_ (some 7) rfl rfl Try.func17 (by kernel_rfl) rfl #[.slice A0 l0.length c0] rfl (by (try simp only [List.map_toArray, List.map_cons, List.map_nil]); first | done | rfl | (simp only [List.length_drop, List.length_take]; rfl)) ?_; (with_reducible refine (impl_IsTree.calls k _ _ l0 true _ ?side1 ?side2 A3.out).mono ?_); (case side1 => repeat (first | exact HR0.out | (with_reducible refine Kd.C_alloc ?_ _) | (with_reducible refine Kd.C_drewN ?_ _) | (with_reducible refine Kd.C_drew ?_))); (case side2 => exact HC0.out); rintro e w' ⟨rfl, ⟨nd, rfl⟩⟩; refine ⟨_, rfl, ?_⟩) | (go_at_call 40; (with_reducible refine (impl_isBreak.calls0 (l0.length : Int) a1 false _ A5.out).mono ?_); rintro e w' ⟨rfl, rfl⟩))
      go_ret2
      exact ⟨_, by first | rfl | (simp [errW_none, errW_some] <;> rfl) | (simp [*, errW_none, errW_some] <;> rfl), by first | exact Kd.R_nil _ _ _ _ _ | exact Kd.N_nil _ _ _ _ _ | exact Kd.V_nil _ _ _ _ _ | exact Kd.Q_nil _ _ _ _ _ | exact Kd.S_nil _ _ _ _ _, by repeat (first | (with_reducible first | exact HB.out | apply below_alloc | apply pw_below_drewN | apply below_drew1) | exact HB.out)⟩
  · replace c4 := Bool.eq_false_iff.mpr c4
    subst c4
    have H1 : (some (([] : List (S42)), false)) = some (r1, r2) := by rw [if_neg (show ¬ (false = true) by decide)] at H; exact H
    clear H
    have H := H1
    clear H1
    simp only [Option.some.injEq, Prod.mk.injEq] at H
    obtain ⟨rfl, rfl⟩ := H
    go_enter Try.func19, Try.ntmps19
    go_wp2_with (first | ((with_reducible refine gate_callee (f := 17) rfl ?_); refine goesL_ (some 7) rfl rfl Try.func17 (by kernel_rfl) rfl #[.slice A0 l0.length c0] rfl (by (try simp only [List.map_toArray, List.map_cons, List.map_nil]); first | done | rfl | (simp only [List.length_drop, List.length_take]; rfl)) ?_; (with_reducible refine (impl_IsTree.calls k _ _ l0 false _ ?side1 ?side2 A3.out).mono ?_); (case side1 => repeat (first | exact HR0.out | (with_reducible refine Kd.C_alloc ?_ _) | (with_reducible refine Kd.C_drewN ?_ _) | (with_reducible refine Kd.C_drew ?_))); (case side2 => exact HC0.out); rintro e w' ⟨rfl, ⟨nd, rfl⟩⟩; refine ⟨_, rfl, ?_⟩))
    go_ret2
    exact ⟨_, by first | rfl | (simp [errW_none, errW_some] <;> rfl) | (simp [*, errW_none, errW_some] <;> rfl), by first | exact Kd.R_nil _ _ _ _ _ | exact Kd.N_nil _ _ _ _ _ | exact Kd.V_nil _ _ _ _ _ | exact Kd.Q_nil _ _ _ _ _ | exact Kd.S_nil _ _ _ _ _, by repeat (first | (with_reducible first | exact HB.out | apply below_alloc | apply pw_below_drewN | apply below_drew1) | exact HB.out)⟩

/-! ### impl_JoinTrees: function 22 -/
def impl_JoinTrees.f (k : Nat) (l0 : List Int) (l1 : List Int) : Option (List Int × Bool) := (impl_IsTree.f k l0).bind fun t385 => (if t385 = true then ((impl_IsTree.f k l1).bind fun t386 => (if t386 = true then (if (wrap64 ((l0.length : Int) + (l1.length : Int))) ≥ 30 then (some (([] : List Int), false)) else ((impl_joined.f k l0 l1).bind fun t387 => (some (t387, true)))) else (some (([] : List Int), false)))) else (some (([] : List Int), false)))
theorem impl_JoinTrees.mono : ∀ a0 a1 k, LeO (impl_JoinTrees.f k a0 a1) (impl_JoinTrees.f (k + 1) a0 a1) := by
  intro a0 a1 k
  unfold impl_JoinTrees.f
  repeat' first
      | (with_reducible exact impl_IsTree.mono _ _)
      | (with_reducible exact impl_joined.mono _ _ _)
      | (with_reducible exact LeO.refl _)
      | (with_reducible exact LeO.none _)
      | (with_reducible refine LeO.ite ?_ ?_)
      | (with_reducible refine LeO.bind ?_ (fun _ => ?_))
      | exact impl_IsTree.mono _ _
      | exact impl_joined.mono _ _ _
      | exact LeO.none _
      | refine LeO.ite ?_ ?_
      | refine LeO.bind ?_ (fun _ => ?_)
set_option maxHeartbeats 8000000 in
set_option maxRecDepth 100000 in
theorem impl_JoinTrees.calls (k : Nat) (A0 : Option Addr) (c0 : Nat) (l0 : List Int) (A1 : Option Addr) (c1 : Nat) (l1 : List Int) (r1 : List Int) (r2 : Bool) (w : World) (hr0 : Kd.C (Kd.int .i64) w A0 l0.length l0) (hc0 : l0.length ≤ c0) (hr1 : Kd.C (Kd.int .i64) w A1 l1.length l1) (hc1 : l1.length ≤ c1) (h : impl_JoinTrees.f k l0 l1 = some (r1, r2)) :
    Calls Try.prog 22 #[.slice A0 l0.length c0, .slice A1 l1.length c1] w fun e w' => ∃ v0_ : Value, e = .returned (.tuple #[v0_, .bool r2]) ∧ Kd.R (Kd.int .i64) 3 w' w.heap.size (fun _ => True) v0_ r1 ∧ Below w.heap.size w w' := by
  have HR0 := Aside0.mk hr0
  have HC0 := Aside0.mk hc0
  clear hr0 hc0
  have HR1 := Aside0.mk hr1
  have HC1 := Aside0.mk hc1
  clear hr1 hc1
  have HB := Aside0.mk (Below.refl w.heap.size w)
  have H : ((impl_IsTree.f k l0).bind fun t385 => (if t385 = true then ((impl_IsTree.f k l1).bind fun t386 => (if t386 = true then (if (wrap64 ((l0.length : Int) + (l1.length : Int))) ≥ 30 then (some (([] : List Int), false)) else ((impl_joined.f k l0 l1).bind fun t387 => (some (t387, true)))) else (some (([] : List Int), false)))) else (some (([] : List Int), false)))) = some (r1, r2) := h
  clear h
  replace H := Option.bind_eq_some_iff.mp H
  obtain ⟨t385, A30, H⟩ := H
  replace H : (if t385 = true then ((impl_IsTree.f k l1).bind fun t386 => (if t386 = true then (if (wrap64 ((l0.length : Int) + (l1.length : Int))) ≥ 30 then (some (([] : List Int), false)) else ((impl_joined.f k l0 l1).bind fun t387 => (some (t387, true)))) else (some (([] : List Int), false)))) else (some (([] : List Int), false))) = some (r1, r2) := H
  have A3 := Aside0.mk A30
  clear A30
  by_cases c4 : t385 = true
  · subst c4
    have H1 : ((impl_IsTree.f k l1).bind fun t386 => (if t386 = true then (if (wrap64 ((l0.length : Int) + (l1.length : Int))) ≥ 30 then (some (([] : List Int), false)) else ((impl_joined.f k l0 l1).bind fun t387 => (some (t387, true)))) else (some (([] : List Int), false)))) = some (r1, r2) := by rw [if_pos rfl] at H; exact H
    clear H
    have H := H1
    clear H1
    replace H := Option.bind_eq_some_iff.mp H
    obtain ⟨t386, A50, H⟩ := H
    replace H : (if t386 = true then (if (wrap64 ((l0.length : Int) + (l1.length : Int))) ≥ 30 then (some (([] : List Int), false)) else ((impl_joined.f k l0 l1).bind fun t387 => (some (t387, true)))) else (some (([] : List Int), false))) = some (r1, r2) := H
    have A5 := Aside0.mk A50
    clear A50
    by_cases c6 : t386 = true
    · subst c6
      have H1 : (if (wrap64 ((l0.length : Int) + (l1.length : Int))) ≥ 30 then (some (([] : List Int), false)) else ((impl_joined.f k l0 l1).bind fun t387 => (some (t387, true)))) = some (r1, r2) := by rw [if_pos rfl] at H; exact H
      clear H
      have H := H1
      clear H1
      by_cases c7 : (wrap64 ((l0.length : Int) + (l1.length : Int))) ≥ 30
      · rw [if_pos c7] at H
        have c7b0 : decide (30 ≤ (wrap64 ((l0.length : Int) + (l1.length : Int)))) = true := decide_eq_true c7
        clear c7
        simp only [Option.some.injEq, Prod.mk.injEq] at H
        obtain ⟨rfl, rfl⟩ := H
        go_enter Try.func22, Try.ntmps22
        go_wp2_with (first | ((with_reducible refine gate_callee (f := 17) rfl ?_); refine goesL_ (some 7) rfl rfl Try.func17 (by kernel_rfl) rfl #[.slice A0 l0.length c0] rfl (by (try simp only [List.map_toArray, List.map_cons, List.map_nil]); first | done | rfl | (simp only [List.length_drop, List.length_take]; rfl)) ?_; (with_reducible refine (impl_IsTree.calls k _ _ l0 true _ ?side1 ?side2 A3.out).mono ?_); (case side1 => repeat (first | exact HR0.out | (with_reducible refine Kd.C_alloc ?_ _) | (with_reducible refine Kd.C_drewN ?_ _) | (with_reducible refine Kd.C_drew ?_))); (case side2 => exact HC0.out); rintro e w' ⟨rfl, ⟨nd, rfl⟩⟩; refine ⟨_, rfl, ?_⟩) | (go_at_call 17; (with_reducible refine (impl_IsTree.calls k _ _ l1 true _ ?side1 ?side2 A5.out).mono ?_); (case side1 => repeat (first | exact HR1.out | (with_reducible refine Kd.C_alloc ?_ _) | (with_reducible refine Kd.C_drewN ?_ _) | (with_reducible refine Kd.C_drew ?_))); (case side2 => exact HC1.out); rintro e w' ⟨rfl, ⟨nd, rfl⟩⟩))
        go_ret2
        exact ⟨_, by first | rfl | (simp [errW_none, errW_some] <;> rfl) | (simp [*, errW_none, errW_some] <;> rfl), by first | exact Kd.R_nil _ _ _ _ _ | exact Kd.N_nil _ _ _ _ _ | exact Kd.V_nil _ _ _ _ _ | exact Kd.Q_nil _ _ _ _ _ | exact Kd.S_nil _ _ _ _ _, by repeat (first | (with_reducible first | exact HB.out | apply below_alloc | apply pw_below_drewN | apply below_drew1) | exact HB.out)⟩
      · rw [if_neg c7] at H
        have c7b0 : decide (30 ≤ (wrap64 ((l0.length : Int) + (l1.length : Int)))) = false := decide_eq_false c7
        clear c7
        replace H := Option.bind_eq_some_iff.mp H
        obtain ⟨t387, A80, H⟩ := H
        replace H : (some (t387, true)) = some (r1, r2) := H
        have A8 := Aside0.mk A80
        clear A80
        simp only [Option.some.injEq, Prod.mk.injEq] at H
        obtain ⟨rfl, rfl⟩ := H
        go_enter Try.func22, Try.ntmps22
        go_wp2_with (first | ((with_reducible refine gate_callee (f := 17) rfl ?_); refine goesL_ (some 7) rfl rfl Try.func17 (by kernel_rfl) rfl #[.slice A0 l0.length c0] rfl (by (try simp only [List.map_toArray, List.map_cons, List.map_nil]); first | done | rfl | (simp only [List.length_drop, List.length_take]; rfl)) ?_; (with_reducible refine (impl_IsTree.calls k _ _ l0 true _ ?side1 ?side2 A3.out).mono ?_); (case side1 => repeat (first | exact HR0.out | (with_reducible refine Kd.C_alloc ?_ _) | (with_reducible refine Kd.C_drewN ?_ _) | (with_reducible refine Kd.C_drew ?_))); (case side2 => exact HC0.out); rintro e w' ⟨rfl, ⟨nd, rfl⟩⟩; refine ⟨_, rfl, ?_⟩) | (go_at_call 17; (with_reducible refine (impl_IsTree.calls k _ _ l1 true _ ?side1 ?side2 A5.out).mono ?_); (case side1 => repeat (first | exact HR1.out | (with_reducible refine Kd.C_alloc ?_ _) | (with_reducible refine Kd.C_drewN ?_ _) | (with_reducible refine Kd.C_drew ?_))); (case side2 => exact HC1.out); rintro e w' ⟨rfl, ⟨nd, rfl⟩⟩) | ((with_reducible refine gate_callee (f := 43) rfl ?_); refine goesL_ (some 24) rfl rfl Try.func43 (by kernel_rfl) rfl #[.slice A0 l0.length c0, .slice A1 l1.length c1] rfl (by (try simp only [List.map_toArray, List.map_cons, List.map_nil]); first | done | rfl | (simp only [List.length_drop, List.length_take]; rfl)) ?_; (with_reducible refine (impl_joined.calls k _ _ l0 _ _ l1 t387 _ ?side1 ?side2 ?side3 ?side4 A8.out).mono ?_); (case side1 => repeat (first | exact HR0.out | (with_reducible refine Kd.C_alloc ?_ _) | (with_reducible refine Kd.C_drewN ?_ _) | (with_reducible refine Kd.C_drew ?_))); (case side2 => exact HC0.out); (case side3 => repeat (first | exact HR1.out | (with_reducible refine Kd.C_alloc ?_ _) | (with_reducible refine Kd.C_drewN ?_ _) | (with_reducible refine Kd.C_drew ?_))); (case side4 => exact HC1.out); rintro e w9 ⟨v388, rfl, ho0, hb⟩; refine ⟨_, rfl, ?_⟩; have n0_ := Aside0.mk (Kd.R_lower ho0 (below_size (by repeat (first | (with_reducible first | exact HB.out | apply below_alloc | apply pw_below_drewN | apply below_drew1) | exact HB.out)))); have n1_ := Aside0.mk (below_step (by repeat (first | (with_reducible first | exact HB.out | apply below_alloc | apply pw_below_drewN | apply below_drew1) | exact HB.out)) hb); clear HB; have HO389 := n0_; have HB := n1_; clear n0_ n1_; (try clear hb); (try clear hb2); (try clear hk); (try clear hi); (try clear ho0)))
        go_ret2
        exact ⟨_, by first | rfl | (simp [errW_none, errW_some] <;> rfl) | (simp [*, errW_none, errW_some] <;> rfl), by (with_reducible repeat (first | apply Kd.R_alloc | apply Kd.R_drewN | apply Kd.R_drew)); exact HO389.out, by repeat (first | (with_reducible first | exact HB.out | apply below_alloc | apply pw_below_drewN | apply below_drew1) | exact HB.out)⟩
    · replace c6 := Bool.eq_false_iff.mpr c6
      subst c6
      have H1 : (some (([] : List Int), false)) = some (r1, r2) := by rw [if_neg (show ¬ (false = true) by decide)] at H; exact H
      clear H
      have H := H1
      clear H1
      simp only [Option.some.injEq, Prod.mk.injEq] at H
      obtain ⟨rfl, rfl⟩ := H
      go_enter Try.func22, Try.ntmps22
      go_wp2_with (first | ((with_reducible refine gate_callee (f := 17) rfl ?_); refine goesL_ (some 7) rfl rfl Try.func17 (by kernel_rfl) rfl #[.slice A0 l0.length c0] rfl (by (try simp only [List.map_toArray, List.map_cons, List.map_nil]); first | done | rfl | (simp only [List.length_drop, List.length_take]; rfl)) ?_; (with_reducible refine (impl_IsTree.calls k _ _ l0 true _ ?side1 ?side2 A3.out).mono ?_); (case side1 => repeat (first | exact HR0.out | (with_reducible refine Kd.C_alloc ?_ _) | (with_reducible refine Kd.C_drewN ?_ _) | (with_reducible refine Kd.C_drew ?_))); (case side2 => exact HC0.out); rintro e w' ⟨rfl, ⟨nd, rfl⟩⟩; refine ⟨_, rfl, ?_⟩) | (go_at_call 17; (with_reducible refine (impl_IsTree.calls k _ _ l1 false _ ?side1 ?side2 A5.out).mono ?_); (case side1 => repeat (first | exact HR1.out | (with_reducible refine Kd.C_alloc ?_ _) | (with_reducible refine Kd.C_drewN ?_ _) | (with_reducible refine Kd.C_drew ?_))); (case side2 => exact HC1.out); rintro e w' ⟨rfl, ⟨nd, rfl⟩⟩))
      go_ret2
      exact ⟨_, by first | rfl | (simp [errW_none, errW_some] <;> rfl) | (simp [*, errW_none, errW_some] <;> rfl), by first | exact Kd.R_nil _ _ _ _ _ | exact Kd.N_nil _ _ _ _ _ | exact Kd.V_nil _ _ _ _ _ | exact Kd.Q_nil _ _ _ _ _ | exact Kd.S_nil _ _ _ _ _, by repeat (first | (with_reducible first | exact HB.out | apply below_alloc | apply pw_below_drewN | apply below_drew1) | exact HB.out)⟩
  · replace c4 := Bool.eq_false_iff.mpr c4
    subst c4
    have H1 : (some (([] : List Int), false)) = some (r1, r2) := by rw [if_neg (show ¬ (false = true) by decide)] at H; exact H
    clear H
    have H := H1
    clear H1
    simp only [Option.some.injEq, Prod.mk.injEq] at H
    obtain ⟨rfl, rfl⟩ := H
    go_enter Try.func22, Try.ntmps22
    go_wp2_with (first | ((with_reducible refine gate_callee (f := 17) rfl ?_); refine goesL_ (some 7) rfl rfl Try.func17 (by kernel_rfl) rfl #[.slice A0 l0.length c0] rfl (by (try simp only [List.map_toArray, List.map_cons, List.map_nil]); first | done | rfl | (simp only [List.length_drop, List.length_take]; rfl)) ?_; (with_reducible refine (impl_IsTree.calls k _ _ l0 false _ ?side1 ?side2 A3.out).mono ?_); (case side1 => repeat (first | exact HR0.out | (with_reducible refine Kd.C_alloc ?_ _) | (with_reducible refine Kd.C_drewN ?_ _) | (with_reducible refine Kd.C_drew ?_))); (case side2 => exact HC0.out); rintro e w' ⟨rfl, ⟨nd, rfl⟩⟩; refine ⟨_, rfl, ?_⟩))
    go_ret2
    exact ⟨_, by first | rfl | (simp [errW_none, errW_some] <;> rfl) | (simp [*, errW_none, errW_some] <;> rfl), by first | exact Kd.R_nil _ _ _ _ _ | exact Kd.N_nil _ _ _ _ _ | exact Kd.V_nil _ _ _ _ _ | exact Kd.Q_nil _ _ _ _ _ | exact Kd.S_nil _ _ _ _ _, by repeat (first | (with_reducible first | exact HB.out | apply below_alloc | apply pw_below_drewN | apply below_drew1) | exact HB.out)⟩

/-! ### spec_JoinTrees: function 24 -/
def spec_JoinTrees.f (k : Nat) (l0 : List Int) (l1 : List Int) : Option (List Int × Bool) := (spec_trIs.f k l0).bind fun t390 => (if t390 = true then ((spec_trIs.f k l1).bind fun t391 => (if t391 = true then (if (wrap64 ((l0.length : Int) + (l1.length : Int))) ≥ 30 then (some (([] : List Int), false)) else ((spec_trJoin.f k l0 l1).bind fun t392 => (some (t392, true)))) else (some (([] : List Int), false)))) else (some (([] : List Int), false)))
theorem spec_JoinTrees.mono : ∀ a0 a1 k, LeO (spec_JoinTrees.f k a0 a1) (spec_JoinTrees.f (k + 1) a0 a1) := by
  intro a0 a1 k
  unfold spec_JoinTrees.f
  repeat' first
      | (with_reducible exact spec_trIs.mono _ _)
      | (with_reducible exact spec_trJoin.mono _ _ _)
      | (with_reducible exact LeO.refl _)
      | (with_reducible exact LeO.none _)
      | (with_reducible refine LeO.ite ?_ ?_)
      | (with_reducible refine LeO.bind ?_ (fun _ => ?_))
      | exact spec_trIs.mono _ _
      | exact spec_trJoin.mono _ _ _
      | exact LeO.none _
      | refine LeO.ite ?_ ?_
      | refine LeO.bind ?_ (fun _ => ?_)
set_option maxHeartbeats 8000000 in
set_option maxRecDepth 100000 in
theorem spec_JoinTrees.calls (k : Nat) (A0 : Option Addr) (c0 : Nat) (l0 : List Int) (A1 : Option Addr) (c1 : Nat) (l1 : List Int) (r1 : List Int) (r2 : Bool) (w : World) (hr0 : Kd.C (Kd.int .i64) w A0 l0.length l0) (hc0 : l0.length ≤ c0) (hr1 : Kd.C (Kd.int .i64) w A1 l1.length l1) (hc1 : l1.length ≤ c1) (h : spec_JoinTrees.f k l0 l1 = some (r1, r2)) :
    Calls Try.prog 24 #[.slice A0 l0.length c0, .slice A1 l1.length c1] w fun e w' => ∃ v0_ : Value, e = .returned (.tuple #[v0_, .bool r2]) ∧ Kd.R (Kd.int .i64) 3 w' w.heap.size (fun _ => True) v0_ r1 ∧ Below w.heap.size w w' := by
  have HR0 := Aside0.mk hr0
  have HC0 := Aside0.mk hc0
  clear hr0 hc0
  have HR1 := Aside0.mk hr1
  have HC1 := Aside0.mk hc1
  clear hr1 hc1
  have HB := Aside0.mk (Below.refl w.heap.size w)
  have H : ((spec_trIs.f k l0).bind fun t390 => (if t390 = true then ((spec_trIs.f k l1).bind fun t391 => (if t391 = true then (if (wrap64 ((l0.length : Int) + (l1.length : Int))) ≥ 30 then (some (([] : List Int), false)) else ((spec_trJoin.f k l0 l1).bind fun t392 => (some (t392, true)))) else (some (([] : List Int), false)))) else (some (([] : List Int), false)))) = some (r1, r2) := h
  clear h
  replace H := Option.bind_eq_some_iff.mp H
  obtain ⟨t390, A30, H⟩ := H
  replace H : (if t390 = true then ((spec_trIs.f k l1).bind fun t391 => (if t391 = true then (if (wrap64 ((l0.length : Int) + (l1.length : Int))) ≥ 30 then (some (([] : List Int), false)) else ((spec_trJoin.f k l0 l1).bind fun t392 => (some (t392, true)))) else (some (([] : List Int), false)))) else (some (([] : List Int), false))) = some (r1, r2) := H
  have A3 := Aside0.mk A30
  clear A30
  by_cases c4 : t390 = true
  · subst c4
    have H1 : ((spec_trIs.f k l1).bind fun t391 => (if t391 = true then (if (wrap64 ((l0.length : Int) + (l1.length : Int))) ≥ 30 then (some (([] : List Int), false)) else ((spec_trJoin.f k l0 l1).bind fun t392 => (some (t392, true)))) else (some (([] : List Int), false)))) = some (r1, r2) := by rw [if_pos rfl] at H; exact H
    clear H
    have H := H1
    clear H1
    replace H := Option.bind_eq_some_iff.mp H
    obtain ⟨t391, A50, H⟩ := H
    replace H : (if t391 = true then (if (wrap64 ((l0.length : Int) + (l1.length : Int))) ≥ 30 then (some (([] : List Int), false)) else ((spec_trJoin.f k l0 l1).bind fun t392 => (some (t392, true)))) else (some (([] : List Int), false))) = some (r1, r2) := H
    have A5 := Aside0.mk A50
    clear A50
    by_cases c6 : t391 = true
    · subst c6
      have H1 : (if (wrap64 ((l0.length : Int) + (l1.length : Int))) ≥ 30 then (some (([] : List Int), false)) else ((spec_trJoin.f k l0 l1).bind fun t392 => (some (t392, true)))) = some (r1, r2) := by rw [if_pos rfl] at H; exact H
      clear H
      have H := H1
      clear H1
      by_cases c7 : (wrap64 ((l0.length : Int) + (l1.length : Int))) ≥ 30
      · rw [if_pos c7] at H
        have c7b0 : decide (30 ≤ (wrap64 ((l0.length : Int) + (l1.length : Int)))) = true := decide_eq_true c7
        clear c7
        simp only [Option.some.injEq, Prod.mk.injEq] at H
        obtain ⟨rfl, rfl⟩ := H
        go_enter Try.func24, Try.ntmps24
        go_wp2_with (first | ((with_reducible refine gate_callee (f := 30) rfl ?_); refine goesL_ (some 7) rfl rfl Try.func30 (by kernel_rfl) rfl #[.slice A0 l0.length c0] rfl (by (try simp only [List.map_toArray, List.map_cons, List.map_nil]); first | done | rfl | (simp only [List.length_drop, List.length_take]; rfl)) ?_; (with_reducible refine (spec_trIs.calls k _ _ l0 true _ ?side1 ?side2 A3.out).mono ?_); (case side1 => repeat (first | exact HR0.out | (with_reducible refine Kd.C_alloc ?_ _) | (with_reducible refine Kd.C_drewN ?_ _) | (with_reducible refine Kd.C_drew ?_))); (case side2 => exact HC0.out); rintro e w8 ⟨rfl, hb⟩; refine ⟨_, rfl, ?_⟩; have n0_ := Aside0.mk (below_step (by repeat (first | (with_reducible first | exact HB.out | apply below_alloc | apply pw_below_drewN | apply below_drew1) | exact HB.out)) hb); clear HB; have HB := n0_; clear n0_; (try clear hb); (try clear hb2); (try clear hk); (try clear hi)) | (go_at_call 30; (with_reducible refine (spec_trIs.calls k _ _ l1 true _ ?side1 ?side2 A5.out).mono ?_); (case side1 => repeat (first | exact HR1.out | exact (Kd.C_below HR1.out HB.out) | (with_reducible refine Kd.C_alloc ?_ _) | (with_reducible refine Kd.C_drewN ?_ _) | (with_reducible refine Kd.C_drew ?_))); (case side2 => exact HC1.out); rintro e w9 ⟨rfl, hb⟩; have n0_ := Aside0.mk (below_step (by repeat (first | (with_reducible first | exact HB.out | apply below_alloc | apply pw_below_drewN | apply below_drew1) | exact HB.out)) hb); clear HB; have HB := n0_; clear n0_; (try clear hb); (try clear hb2); (try clear hk); (try clear hi)))
        go_ret2
        exact ⟨_, by first | rfl | (simp [errW_none, errW_some] <;> rfl) | (simp [*, errW_none, errW_some] <;> rfl), by first | exact Kd.R_nil _ _ _ _ _ | exact Kd.N_nil _ _ _ _ _ | exact Kd.V_nil _ _ _ _ _ | exact Kd.Q_nil _ _ _ _ _ | exact Kd.S_nil _ _ _ _ _, by repeat (first | (with_reducible first | exact HB.out | apply below_alloc | apply pw_below_drewN | apply below_drew1) | exact HB.out)⟩
      · rw [if_neg c7] at H
        have c7b0 : decide (30 ≤ (wrap64 ((l0.length : Int) + (l1.length : Int)))) = false := decide_eq_false c7
        clear c7
        replace H := Option.bind_eq_some_iff.mp H
        obtain ⟨t392, A100, H⟩ := H
        replace H : (some (t392, true)) = some (r1, r2) := H
        have A10 := Aside0.mk A100
        clear A100
        simp only [Option.some.injEq, Prod.mk.injEq] at H
        obtain ⟨rfl, rfl⟩ := H
        go_enter Try.func24, Try.ntmps24
        go_wp2_with (first | ((with_reducible refine gate_callee (f := 30) rfl ?_); refine goesL_ (some 7) rfl rfl Try.func30 (by kernel_rfl) rfl #[.slice A0 l0.length c0] rfl (by (try simp only [List.map_toArray, List.map_cons, List.map_nil]); first | done | rfl | (simp only [List.length_drop, List.length_take]; rfl)) ?_; (with_reducible refine (spec_trIs.calls k _ _ l0 true _ ?side1 ?side2 A3.out).mono ?_); (case side1 => repeat (first | exact HR0.out | (with_reducible refine Kd.C_alloc ?_ _) | (with_reducible refine Kd.C_drewN ?_ _) | (with_reducible refine Kd.C_drew ?_))); (case side2 => exact HC0.out); rintro e w11 ⟨rfl, hb⟩; refine ⟨_, rfl, ?_⟩; have n0_ := Aside0.mk (below_step (by repeat (first | (with_reducible first | exact HB.out | apply below_alloc | apply pw_below_drewN | apply below_drew1) | exact HB.out)) hb); clear HB; have HB := n0_; clear n0_; (try clear hb); (try clear hb2); (try clear hk); (try clear hi)) | (go_at_call 30; (with_reducible refine (spec_trIs.calls k _ _ l1 true _ ?side1 ?side2 A5.out).mono ?_); (case side1 => repeat (first | exact HR1.out | exact (Kd.C_below HR1.out HB.out) | (with_reducible refine Kd.C_alloc ?_ _) | (with_reducible refine Kd.C_drewN ?_ _) | (with_reducible refine Kd.C_drew ?_))); (case side2 => exact HC1.out); rintro e w12 ⟨rfl, hb⟩; have n0_ := Aside0.mk (below_step (by repeat (first | (with_reducible first | exact HB.out | apply below_alloc | apply pw_below_drewN | apply below_drew1) | exact HB.out)) hb); clear HB; have HB := n0_; clear n0_; (try clear hb); (try clear hb2); (try clear hk); (try clear hi)) | ((with_reducible refine gate_callee (f := 45) rfl ?_); refine goesL_ (some 24) rfl rfl Try.func45 (by kernel_rfl) rfl #[.slice A0 l0.length c0, .slice A1 l1.length c1] rfl (by (try simp only [List.map_toArray, List.map_cons, List.map_nil]); first | done | rfl | (simp only [List.length_drop, List.length_take]; rfl)) ?_; (with_reducible refine (spec_trJoin.calls k _ _ l0 _ _ l1 t392 _ ?side1 ?side2 ?side3 ?side4 A10.out).mono ?_); (case side1 => repeat (first | exact HR0.out | exact (Kd.C_below HR0.out HB.out) | (with_reducible refine Kd.C_alloc ?_ _) | (with_reducible refine Kd.C_drewN ?_ _) | (with_reducible refine Kd.C_drew ?_))); (case side2 => exact HC0.out); (case side3 => repeat (first | exact HR1.out | exact (Kd.C_below HR1.out HB.out) | (with_reducible refine Kd.C_alloc ?_ _) | (with_reducible refine Kd.C_drewN ?_ _) | (with_reducible refine Kd.C_drew ?_))); (case side4 => exact HC1.out); rintro e w13 ⟨v393, rfl, ho0, hb⟩; refine ⟨_, rfl, ?_⟩; have n0_ := Aside0.mk (Kd.R_lower ho0 (below_size (by repeat (first | (with_reducible first | exact HB.out | apply below_alloc | apply pw_below_drewN | apply below_drew1) | exact HB.out)))); have n1_ := Aside0.mk (below_step (by repeat (first | (with_reducible first | exact HB.out | apply below_alloc | apply pw_below_drewN | apply below_drew1) | exact HB.out)) hb); clear HB; have HO394 := n0_; have HB := n1_; clear n0_ n1_; (try clear hb); (try clear hb2); (try clear hk); (try clear hi); (try clear ho0)))
        go_ret2
        exact ⟨_, by first | rfl | (simp [errW_none, errW_some] <;> rfl) | (simp [*, errW_none, errW_some] <;> rfl), by (with_reducible repeat (first | apply Kd.R_alloc | apply Kd.R_drewN | apply Kd.R_drew)); exact HO394.out, by repeat (first | (with_reducible first | exact HB.out | apply below_alloc | apply pw_below_drewN | apply below_drew1) | exact HB.out)⟩
    · replace c6 := Bool.eq_false_iff.mpr c6
      subst c6
      have H1 : (some (([] : List Int), false)) = some (r1, r2) := by rw [if_neg (show ¬ (false = true) by decide)] at H; exact H
      clear H
      have H := H1
      clear H1
      simp only [Option.some.injEq, Prod.mk.injEq] at H
      obtain ⟨rfl, rfl⟩ := H
      go_enter Try.func24, Try.ntmps24
      go_wp2_with (first | ((with_reducible refine gate_callee (f := 30) rfl ?_); refine goesL_ (some 7) rfl rfl Try.func30 (by kernel_rfl) rfl #[.slice A0 l0.length c0] rfl (by (try simp only [List.map_toArray, List.map_cons, List.map_nil]); first | done | rfl | (simp only [List.length_drop, List.length_take]; rfl)) ?_; (with_reducible refine (spec_trIs.calls k _ _ l0 true _ ?side1 ?side2 A3.out).mono ?_); (case side1 => repeat (first | exact HR0.out | (with_reducible refine Kd.C_alloc ?_ _) | (with_reducible refine Kd.C_drewN ?_ _) | (with_reducible refine Kd.C_drew ?_))); (case side2 => exact HC0.out); rintro e w14 ⟨rfl, hb⟩; refine ⟨_, rfl, ?_⟩; have n0_ := Aside0.mk (below_step (by repeat (first | (with_reducible first | exact HB.out | apply below_alloc | apply pw_below_drewN | apply below_drew1) | exact HB.out)) hb); clear HB; have HB := n0_; clear n0_; (try clear hb); (try clear hb2); (try clear hk); (try clear hi)) | (go_at_call 30; (with_reducible refine (spec_trIs.calls k _ _ l1 false _ ?side1 ?side2 A5.out).mono ?_); (case side1 => repeat (first | exact HR1.out | exact (Kd.C_below HR1.out HB.out) | (with_reducible refine Kd.C_alloc ?_ _) | (with_reducible refine Kd.C_drewN ?_ _) | (with_reducible refine Kd.C_drew ?_))); (case side2 => exact HC1.out); rintro e w15 ⟨rfl, hb⟩; have n0_ := Aside0.mk (below_step (by repeat (first | (with_reducible first | exact HB.out | apply below_alloc | apply pw_below_drewN | apply below_drew1) | exact HB.out)) hb); clear HB; have HB := n0_; clear n0_; (try clear hb); (try clear hb2); (try clear hk); (try clear hi)))
      go_ret2
      exact ⟨_, by first | rfl | (simp [errW_none, errW_some] <;> rfl) | (simp [*, errW_none, errW_some] <;> rfl), by first | exact Kd.R_nil _ _ _ _ _ | exact Kd.N_nil _ _ _ _ _ | exact Kd.V_nil _ _ _ _ _ | exact Kd.Q_nil _ _ _ _ _ | exact Kd.S_nil _ _ _ _ _, by repeat (first | (with_reducible first | exact HB.out | apply below_alloc | apply pw_below_drewN | apply below_drew1) | exact HB.out)⟩
  · replace c4 := Bool.eq_false_iff.mpr c4
    subst c4
    have H1 : (some (([] : List Int), false)) = some (r1, r2) := by rw [if_neg (show ¬ (false = true) by decide)] at H; exact H
    clear H
    have H := H1
    clear H1
    simp only [Option.some.injEq, Prod.mk.injEq] at H
    obtain ⟨rfl, rfl⟩ := H
    go_enter Try.func24, Try.ntmps24
    go_wp2_with (first | ((with_reducible refine gate_callee (f := 30) rfl ?_); refine goesL_ (some 7) rfl rfl Try.func30 (by kernel_rfl) rfl #[.slice A0 l0.length c0] rfl (by (try simp only [List.map_toArray, List.map_cons, List.map_nil]); first | done | rfl | (simp only [List.length_drop, List.length_take]; rfl)) ?_; (with_reducible refine (spec_trIs.calls k _ _ l0 false _ ?side1 ?side2 A3.out).mono ?_); (case side1 => repeat (first | exact HR0.out | (with_reducible refine Kd.C_alloc ?_ _) | (with_reducible refine Kd.C_drewN ?_ _) | (with_reducible refine Kd.C_drew ?_))); (case side2 => exact HC0.out); rintro e w16 ⟨rfl, hb⟩; refine ⟨_, rfl, ?_⟩; have n0_ := Aside0.mk (below_step (by repeat (first | (with_reducible first | exact HB.out | apply below_alloc | apply pw_below_drewN | apply below_drew1) | exact HB.out)) hb); clear HB; have HB := n0_; clear n0_; (try clear hb); (try clear hb2); (try clear hk); (try clear hi)))
    go_ret2
    exact ⟨_, by first | rfl | (simp [errW_none, errW_some] <;> rfl) | (simp [*, errW_none, errW_some] <;> rfl), by first | exact Kd.R_nil _ _ _ _ _ | exact Kd.N_nil _ _ _ _ _ | exact Kd.V_nil _ _ _ _ _ | exact Kd.Q_nil _ _ _ _ _ | exact Kd.S_nil _ _ _ _ _, by repeat (first | (with_reducible first | exact HB.out | apply below_alloc | apply pw_below_drewN | apply below_drew1) | exact HB.out)⟩

/-! behind impl_PartsOfTree -/
def isT (l : List Int) : Bool := decide (l.length ≤ 30) && trOk 30 1 l
theorem trOk_toL : ∀ (t : Tr) (n : Nat) (fr : Int), t.size ≤ n → trOk n fr (t.toL fr) = true
  | .nil, n, fr, _ => by cases n <;> rfl
  | .node b a, 0, fr, h => by simp [Tr.size] at h
  | .node b a, n + 1, fr, h => by
    simp only [Tr.size] at h
    simp only [Tr.toL, trOk]
    have e : (fr + (b.size : Int) - fr).toNat = b.size := by omega
    have e1 : (b.toL fr ++ a.toL (fr + b.size + 1)).take b.size = b.toL fr := by rw [List.take_append_of_le_length (by rw [Tr.toL_length]; omega), List.take_of_length_le (by rw [Tr.toL_length]; omega)]
    have e2 : (b.toL fr ++ a.toL (fr + b.size + 1)).drop b.size = a.toL (fr + b.size + 1) := by rw [List.drop_append_of_le_length (by rw [Tr.toL_length]; omega), List.drop_of_length_le (by rw [Tr.toL_length]; omega), List.nil_append]
    rw [e, e1, e2, trOk_toL b n fr (by omega), trOk_toL a n _ (by omega), decide_eq_true (by omega), decide_eq_true (by rw [List.length_append, Tr.toL_length, Tr.toL_length]; omega)]
    rfl
theorem isT_toL (t : Tr) (ht : t.size ≤ 30) : isT (t.toL 1) = true := by
  unfold isT
  rw [Tr.toL_length, decide_eq_true ht, trOk_toL t 30 1 ht]
  rfl
theorem tt_no (l : List Int) (g : isT l = false) :
    impl_TestsOfTree.f 300 l = some (0, false) ∧ spec_TestsOfTree.f 300 l = some (0, false) ∧ impl_EggsOfTree.f 300 l = some (0, false) ∧ spec_EggsOfTree.f 300 l = some (0, false) ∧
    impl_SumOfTree.f 300 l = some (0, false) ∧ spec_SumOfTree.f 300 l = some (0, false) ∧ impl_PartsOfTree.f 300 l = some ([], [], false) ∧ spec_PartsOfTree.f 300 l = some ([], [], false) ∧
    impl_MirrorTree.f 300 l = some ([], false) ∧ spec_MirrorTree.f 300 l = some ([], false) ∧ impl_IsTree.f 300 l = some false ∧ spec_IsTree.f 300 l = some false := by
  have h1 := spec_trIs_is l 300 (by omega)
  have h2 := impl_IsTree_is l 300 (by omega)
  unfold isT at g
  rw [g] at h1 h2
  unfold impl_TestsOfTree.f spec_TestsOfTree.f impl_EggsOfTree.f spec_EggsOfTree.f impl_SumOfTree.f spec_SumOfTree.f impl_PartsOfTree.f spec_PartsOfTree.f impl_MirrorTree.f spec_MirrorTree.f spec_IsTree.f
  rw [h1, h2]
  exact ⟨rfl, rfl, rfl, rfl, rfl, rfl, rfl, rfl, rfl, rfl, rfl, rfl⟩
theorem tt_yes (t : Tr) (ht : t.size ≤ 30) :
    impl_TestsOfTree.f 300 (t.toL 1) = some (t.tests, true) ∧ spec_TestsOfTree.f 300 (t.toL 1) = some (t.tests, true) ∧ impl_EggsOfTree.f 300 (t.toL 1) = some (t.eggs, true) ∧ spec_EggsOfTree.f 300 (t.toL 1) = some (t.eggs, true) ∧
    impl_SumOfTree.f 300 (t.toL 1) = some (t.sum, true) ∧ spec_SumOfTree.f 300 (t.toL 1) = some (t.sum, true) ∧
    impl_MirrorTree.f 300 (t.toL 1) = some (t.mirror.toL 1, true) ∧ spec_MirrorTree.f 300 (t.toL 1) = some (t.mirror.toL 1, true) ∧ impl_IsTree.f 300 (t.toL 1) = some true ∧ spec_IsTree.f 300 (t.toL 1) = some true ∧
    (∀ x : Nat, x ≤ t.size → impl_TreeDrops.f 300 (t.toL 1) (x : Int) = some (dropsT t 0 x [], true)) := by
  have h1 := spec_trIs_is (t.toL 1) 300 (by omega)
  have h2 := impl_IsTree_is (t.toL 1) 300 (by omega)
  have g := isT_toL t ht
  unfold isT at g
  rw [g] at h1 h2
  have e1 := spec_trTests_is t 1 300 (by omega) (by omega) (by omega) (by omega)
  have e2 := impl_most_is 1 1 (by omega) (by omega) t 300 (by omega) (by omega)
  have e3 := impl_most_is 1 0 (by omega) (by omega) t 300 (by omega) (by omega)
  rw [Tr.mostV_tests] at e2
  rw [Tr.mostV_eggs] at e3
  have e4 := impl_SumOfTree_l0 t ht (t.size + 1) 300 0 (by omega) (by omega) (by omega)
  have e5 : wrap64 (((t.toL 1).length : Int) + 1) = (t.size : Int) + 1 := by rw [Tr.toL_length]; unfold wrap64; omega
  refine ⟨?_, ?_, ?_, ?_, ?_, ?_, ?_, ?_, h2, ?_, fun x hx => ?_⟩
  · unfold impl_TestsOfTree.f; rw [h2]; simp [e2]
  · unfold spec_TestsOfTree.f; rw [h1]; simp [e1]
  · unfold impl_EggsOfTree.f; rw [h2]; simp [e3]
  · unfold spec_EggsOfTree.f; rw [h1]; simp [e1]
  · unfold impl_SumOfTree.f
    rw [h2, Option.bind_some, if_pos rfl, e5]
    exact e4
  · unfold spec_SumOfTree.f; rw [h1]; simp [e1]
  · unfold impl_MirrorTree.f
    rw [h2, Option.bind_some, if_pos rfl, impl_mirrored_is t 300 (by omega) (by omega), Option.bind_some]
  · unfold spec_MirrorTree.f
    rw [h1, Option.bind_some, if_pos rfl, spec_trMirror_is t 300 (by omega) (by omega), Option.bind_some]
  · unfold spec_IsTree.f; rw [h1]; rfl
  · unfold impl_TreeDrops.f
    rw [h2, Option.bind_some, if_pos rfl, Tr.toL_length, impl_isBreak_is, decide_eq_true (by omega), decide_eq_true (by omega), Bool.and_true, Option.bind_some, if_pos rfl, impl_treeDrops_is t 300 x (by omega) (by omega), Option.bind_some]
theorem tt_parts_nil : impl_PartsOfTree.f 300 (Tr.nil.toL 1) = some ([], [], false) ∧ spec_PartsOfTree.f 300 (Tr.nil.toL 1) = some ([], [], false) := by
  have h1 := spec_trIs_is (Tr.nil.toL 1) 300 (by omega)
  have h2 := impl_IsTree_is (Tr.nil.toL 1) 300 (by omega)
  have g := isT_toL .nil (by simp [Tr.size])
  unfold isT at g
  rw [g] at h1 h2
  unfold impl_PartsOfTree.f spec_PartsOfTree.f
  exact ⟨by rw [h2]; rfl, by rw [h1]; rfl⟩
theorem tt_parts (b a : Tr) (h : b.size + a.size ≤ 29) : impl_PartsOfTree.f 300 ((Tr.node b a).toL 1) = some (b.toL 1, a.toL 1, true) ∧ spec_PartsOfTree.f 300 ((Tr.node b a).toL 1) = some (b.toL 1, a.toL 1, true) := by
  have h1 := spec_trIs_is ((Tr.node b a).toL 1) 300 (by omega)
  have h2 := impl_IsTree_is ((Tr.node b a).toL 1) 300 (by omega)
  have g := isT_toL (.node b a) (by simp only [Tr.size]; omega)
  unfold isT at g
  rw [g] at h1 h2
  have hln := Tr.toL_length (Tr.node b a) 1
  have hsz : (Tr.node b a).size = b.size + a.size + 1 := rfl
  have hr : rd ((Tr.node b a).toL 1) 0 = ((b.size + 1 : Nat) : Int) := by simp only [Tr.toL, rd_cons0]; omega
  have hne : ((((Tr.node b a).toL 1).length : Int) == 0) = false := beq_eq_false_iff_ne.mpr (by omega)
  have e1 : wrap64 (1 + (b.size : Int)) = ((b.size + 1 : Nat) : Int) := by unfold wrap64; omega
  have e2 : wrap64 (-((b.size + 1 : Nat) : Int)) = -((b.size + 1 : Nat) : Int) := by unfold wrap64; omega
  unfold impl_PartsOfTree.f spec_PartsOfTree.f
  refine ⟨?_, ?_⟩
  · rw [h2, Option.bind_some, if_pos rfl, if_neg (by omega), impl_parts_is b a 300 (by omega) (by omega), Option.bind_some]
  · rw [h1, Option.bind_some, if_pos rfl, hne, spec_PartsOfTree.j0, if_neg (by simp), toL_split b a 1 (by omega) (by omega) (by omega), Option.bind_some, e1, if_pos (by omega), if_pos (by omega), Int.toNat_natCast, toL_take,
      spec_l1Own_is _ (by rw [Tr.toL_length]; omega), Option.bind_some, if_pos (by omega), if_pos (by omega), hr, e2, moved_above b a 299 (by omega) (by omega), Option.bind_some]
theorem tt_join (b a : Tr) (h : b.size + a.size ≤ 29) : impl_JoinTrees.f 300 (b.toL 1) (a.toL 1) = some ((Tr.node b a).toL 1, true) ∧ spec_JoinTrees.f 300 (b.toL 1) (a.toL 1) = some ((Tr.node b a).toL 1, true) := by
  have hb1 := spec_trIs_is (b.toL 1) 300 (by omega)
  have hb2 := impl_IsTree_is (b.toL 1) 300 (by omega)
  have ha1 := spec_trIs_is (a.toL 1) 300 (by omega)
  have ha2 := impl_IsTree_is (a.toL 1) 300 (by omega)
  have gb := isT_toL b (by omega)
  have ga := isT_toL a (by omega)
  unfold isT at gb ga
  rw [gb] at hb1 hb2
  rw [ga] at ha1 ha2
  have e : wrap64 (((b.toL 1).length : Int) + ((a.toL 1).length : Int)) = (b.size : Int) + (a.size : Int) := by rw [Tr.toL_length, Tr.toL_length]; unfold wrap64; omega
  unfold impl_JoinTrees.f spec_JoinTrees.f
  refine ⟨?_, ?_⟩
  · rw [hb2, Option.bind_some, if_pos rfl, ha2, Option.bind_some, if_pos rfl, e, if_neg (by clear e; omega), joined_is b a 300 (by clear e; omega) (by clear e; omega), Option.bind_some]
  · rw [hb1, Option.bind_some, if_pos rfl, ha1, Option.bind_some, if_pos rfl, e, if_neg (by clear e; omega), trJoin_is b a 300 (by clear e; omega) (by clear e; omega), Option.bind_some]
theorem tt_join_no (x y : List Int) (hx : x.length ≤ 1000) (hy : y.length ≤ 1000) (h : ¬ (isT x = true ∧ isT y = true ∧ x.length + y.length ≤ 29)) : impl_JoinTrees.f 300 x y = some ([], false) ∧ spec_JoinTrees.f 300 x y = some ([], false) := by
  have hb1 := spec_trIs_is x 300 (by omega)
  have hb2 := impl_IsTree_is x 300 (by omega)
  have ha1 := spec_trIs_is y 300 (by omega)
  have ha2 := impl_IsTree_is y 300 (by omega)
  have e : wrap64 ((x.length : Int) + (y.length : Int)) = (x.length : Int) + (y.length : Int) := by unfold wrap64; omega
  unfold impl_JoinTrees.f spec_JoinTrees.f
  change spec_trIs.f 300 x = some (isT x) at hb1
  change impl_IsTree.f 300 x = some (isT x) at hb2
  change spec_trIs.f 300 y = some (isT y) at ha1
  change impl_IsTree.f 300 y = some (isT y) at ha2
  rw [hb1, hb2, Option.bind_some, Option.bind_some]
  cases hx2 : isT x with
  | false => exact ⟨rfl, rfl⟩
  | true =>
    rw [if_pos rfl, if_pos rfl, ha1, ha2, Option.bind_some, Option.bind_some]
    cases hy2 : isT y with
    | false => exact ⟨rfl, rfl⟩
    | true =>
      have h9 : ¬ (x.length + y.length ≤ 29) := fun h8 => h ⟨hx2, hy2, h8⟩
      rw [if_pos rfl, if_pos rfl, e, if_pos (by clear e; omega), if_pos (by clear e; omega)]
      exact ⟨rfl, rfl⟩


end Go.Proofs.Ytmcjggjkfkkpbaa.PrintA
