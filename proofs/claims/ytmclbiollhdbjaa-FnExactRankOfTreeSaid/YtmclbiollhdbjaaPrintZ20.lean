-- written by this session's own driver (wip/gen.py) with the kit's print and contracts of our own
import Derived.Test.YtmclbiollhdbjaaPrintZ0
import Derived.Test.YtmclbiollhdbjaaPrintZ1
import Derived.Test.YtmclbiollhdbjaaPrintZ3
import Derived.Test.YtmclbiollhdbjaaPrintZ8
import Derived.Test.YtmclbiollhdbjaaPrintZ9
import Derived.Test.YtmclbiollhdbjaaPrintZ19
namespace Go.Proofs.Ytmclbiollhdbjaa.PrintZ
open Go.RowKit Go.Proofs.YtmclbiollhdbjaaLib Go.Proofs.YtmclbiollhdbjaaW.PrintWords Go.Proofs.YtmclbiollhdbjaaW.PrintLast Go.Proofs.YtmclbiollhdbjaaW.PrintMore
attribute [local go_sem] max2_int min2_int max_two min_two max_three min_three max_four min_four   -- for this text's walks alone
set_option linter.unusedVariables false
set_option linter.unusedSimpArgs false

/-! ### impl_rankOf: function 47 -/
mutual
def impl_rankOf.l0 : Nat → List Int → Int → Int → Option (Int)
  | 0, _, _, _ => none
  | k + 1, x0, x5, x6 => if 0 < (x0.length : Int) then (if x6 < (rd x0 0) then ((impl_catalan.f k (wrap64 (x6 - 1))).bind fun t278 => ((impl_catalan.f k (wrap64 ((x0.length : Int) - x6))).bind fun t279 => (impl_rankOf.l0 k x0 (wrap64 (x5 + (wrap64 (t278 * t279)))) (wrap64 (x6 + 1))))) else (some x5)) else (none)
def impl_rankOf.f : Nat → List Int → Option (Int)
  | 0, _ => none
  | k + 1, l0 => if (l0.length : Int) = 0 then (some 0) else ((impl_parts.f k l0).bind fun bt268 => ((impl_rankOf.f k bt268.1).bind fun t274 => ((impl_catalan.f k (bt268.2.length : Int)).bind fun t275 => ((impl_rankOf.f k bt268.2).bind fun t276 => (impl_rankOf.l0 k l0 (wrap64 ((wrap64 (t274 * t275)) + t276)) 1)))))
end
theorem impl_rankOf.mono_l : ∀ k, (∀ y0, LeO (impl_rankOf.f k y0) (impl_rankOf.f (k + 1) y0)) ∧ (∀ y0 y1 y2, LeO (impl_rankOf.l0 k y0 y1 y2) (impl_rankOf.l0 (k + 1) y0 y1 y2))
  | 0 => ⟨fun _ r h => by simp [impl_rankOf.f] at h, fun _ _ _ r h => by simp [impl_rankOf.l0] at h⟩
  | k + 1 => by
    obtain ⟨ih0, ih1⟩ := impl_rankOf.mono_l k
    refine ⟨?_, ?_⟩
    · intro y0
      unfold impl_rankOf.f
      repeat' first
      | (with_reducible exact ih0 _)
      | (with_reducible exact ih1 _ _ _)
      | (with_reducible exact impl_catalan.mono _ _)
      | (with_reducible exact impl_parts.mono _ _)
      | (with_reducible exact LeO.refl _)
      | (with_reducible exact LeO.none _)
      | (with_reducible refine LeO.ite ?_ ?_)
      | (with_reducible refine LeO.bind ?_ (fun _ => ?_))
      | exact ih0 _
      | exact ih1 _ _ _
      | exact impl_catalan.mono _ _
      | exact impl_parts.mono _ _
      | exact LeO.none _
      | refine LeO.ite ?_ ?_
      | refine LeO.bind ?_ (fun _ => ?_)
    · intro y0 y1 y2
      unfold impl_rankOf.l0
      repeat' first
      | (with_reducible exact ih0 _)
      | (with_reducible exact ih1 _ _ _)
      | (with_reducible exact impl_catalan.mono _ _)
      | (with_reducible exact impl_parts.mono _ _)
      | (with_reducible exact LeO.refl _)
      | (with_reducible exact LeO.none _)
      | (with_reducible refine LeO.ite ?_ ?_)
      | (with_reducible refine LeO.bind ?_ (fun _ => ?_))
      | exact ih0 _
      | exact ih1 _ _ _
      | exact impl_catalan.mono _ _
      | exact impl_parts.mono _ _
      | exact LeO.none _
      | refine LeO.ite ?_ ?_
      | refine LeO.bind ?_ (fun _ => ?_)
theorem impl_rankOf.mono : ∀ a0 k, LeO (impl_rankOf.f k a0) (impl_rankOf.f (k + 1) a0) := by
  intro a0 k
  obtain ⟨ih0, ih1⟩ := impl_rankOf.mono_l k
  exact ih0 a0
set_option maxHeartbeats 8000000 in
set_option maxRecDepth 100000 in
theorem impl_rankOf.calls (k : Nat) : ∀ (A0 : Option Addr) (c0 : Nat) (l0 : List Int) (r : Int) (w : World) (hr0 : Kd.C (Kd.int .i64) w A0 l0.length l0) (hc0 : l0.length ≤ c0) (h : impl_rankOf.f k l0 = some r),
    Calls Try.prog 47 #[.slice A0 l0.length c0] w fun e w' => e = .returned (.int .i64 r) ∧ Below w.heap.size w w' := by
  induction k using Nat.strongRecOn with
  | _ k ih =>
  intro A0 c0 l0 r w hr0 hc0 h
  cases k with
  | zero => exact absurd h (by simp [impl_rankOf.f])
  | succ k =>
  simp only [impl_rankOf.f] at h
  have HR0 := Aside0.mk hr0
  have HC0 := Aside0.mk hc0
  clear hr0 hc0
  have HB := Aside0.mk (Below.refl w.heap.size w)
  have H : (if (l0.length : Int) = 0 then (some 0) else ((impl_parts.f k l0).bind fun bt268 => ((impl_rankOf.f k bt268.1).bind fun t274 => ((impl_catalan.f k (bt268.2.length : Int)).bind fun t275 => ((impl_rankOf.f k bt268.2).bind fun t276 => (impl_rankOf.l0 k l0 (wrap64 ((wrap64 (t274 * t275)) + t276)) 1)))))) = some r := h
  clear h
  by_cases c2 : (l0.length : Int) = 0
  · rw [if_pos c2] at H
    have c2b0 : ((l0.length : Int) == 0) = true := beq_iff_eq.mpr c2
    have c2b1 : ((l0.length : Int) != 0) = false := bne_eq_false_iff_eq.mpr c2
    clear c2
    obtain rfl := Option.some.inj H
    go_enter Try.func47, Try.ntmps47
    go_wp2
    go_ret
    exact ⟨by first | rfl | (simp [errW_none, errW_some] <;> rfl) | (simp [*, errW_none, errW_some] <;> rfl), by repeat (first | (with_reducible first | exact HB.out | apply below_alloc | apply pw_below_drewN | apply below_drew1) | exact HB.out)⟩
  · rw [if_neg c2] at H
    have c2b0 : ((l0.length : Int) == 0) = false := beq_eq_false_iff_ne.mpr c2
    have c2b1 : ((l0.length : Int) != 0) = true := bne_iff_ne.mpr c2
    have c2b2 : ¬ (l0 = []) := fun h_ => c2 (by rw [h_]; rfl)
    replace H := Option.bind_eq_some_iff.mp H
    obtain ⟨⟨t268, t269⟩, A30, H⟩ := H
    replace H : ((impl_rankOf.f k t268).bind fun t274 => ((impl_catalan.f k (t269.length : Int)).bind fun t275 => ((impl_rankOf.f k t269).bind fun t276 => (impl_rankOf.l0 k l0 (wrap64 ((wrap64 (t274 * t275)) + t276)) 1)))) = some r := H
    have A3 := Aside0.mk A30
    clear A30
    replace H := Option.bind_eq_some_iff.mp H
    obtain ⟨t274, A40, H⟩ := H
    replace H : ((impl_catalan.f k (t269.length : Int)).bind fun t275 => ((impl_rankOf.f k t269).bind fun t276 => (impl_rankOf.l0 k l0 (wrap64 ((wrap64 (t274 * t275)) + t276)) 1))) = some r := H
    have A4 := Aside0.mk A40
    clear A40
    replace H := Option.bind_eq_some_iff.mp H
    obtain ⟨t275, A50, H⟩ := H
    replace H : ((impl_rankOf.f k t269).bind fun t276 => (impl_rankOf.l0 k l0 (wrap64 ((wrap64 (t274 * t275)) + t276)) 1)) = some r := H
    have A5 := Aside0.mk A50
    clear A50
    replace H := Option.bind_eq_some_iff.mp H
    obtain ⟨t276, A60, H⟩ := H
    replace H : (impl_rankOf.l0 k l0 (wrap64 ((wrap64 (t274 * t275)) + t276)) 1) = some r := H
    have A6 := Aside0.mk A60
    clear A60
    have H' := Aside0.mk H
    clear H
    go_enter Try.func47, Try.ntmps47
    go_wp2_with (first | ((with_reducible refine gate_callee (f := 43) rfl ?_); refine goesL_ (some 12) rfl rfl Try.func43 (by kernel_rfl) rfl #[.slice A0 l0.length c0] rfl (by (try simp only [List.map_toArray, List.map_cons, List.map_nil]); first | done | rfl | (simp only [List.length_drop, List.length_take]; rfl)) ?_; (with_reducible refine (impl_parts.calls k _ _ l0 t268 t269 _ ?side1 ?side2 A3.out).mono ?_); (case side1 => repeat (first | exact HR0.out | (with_reducible refine Kd.C_alloc ?_ _) | (with_reducible refine Kd.C_drewN ?_ _) | (with_reducible refine Kd.C_drew ?_))); (case side2 => exact HC0.out); rintro e w7 ⟨v270, v272, rfl, ho0, ho1, hb⟩; refine ⟨_, rfl, ?_⟩; have n0_ := Aside0.mk (Kd.R_lower ho0 (below_size (by repeat (first | (with_reducible first | exact HB.out | apply below_alloc | apply pw_below_drewN | apply below_drew1) | exact HB.out)))); have n1_ := Aside0.mk (Kd.R_lower ho1 (below_size (by repeat (first | (with_reducible first | exact HB.out | apply below_alloc | apply pw_below_drewN | apply below_drew1) | exact HB.out)))); have n2_ := Aside0.mk (below_step (by repeat (first | (with_reducible first | exact HB.out | apply below_alloc | apply pw_below_drewN | apply below_drew1) | exact HB.out)) hb); clear HB; have HO271 := n0_; have HO273 := n1_; have HB := n2_; clear n0_ n1_ n2_; (try clear hb); (try clear hb2); (try clear hk); (try clear hi); (try clear ho0); (try clear ho1); obtain ⟨Ao8, co8, eo8⟩ := Kd.R_slice HO271.out; subst eo8) | ((with_reducible refine gate_callee (f := 47) rfl ?_); refine goesL_ (some 16) rfl rfl Try.func47 (by kernel_rfl) rfl #[.slice Ao8 t268.length co8] rfl (by (try simp only [List.map_toArray, List.map_cons, List.map_nil]); first | done | rfl | (simp only [List.length_drop, List.length_take]; rfl)) ?_; (with_reducible refine (ih k (by omega) _ _ t268 t274 _ ?side1 ?side2 A4.out).mono ?_); (case side1 => repeat (first | exact (Kd.R_reads' HO271.out).2.2 | (with_reducible refine Kd.C_alloc ?_ _) | (with_reducible refine Kd.C_drewN ?_ _) | (with_reducible refine Kd.C_drew ?_))); (case side2 => exact (Kd.R_reads' HO271.out).2.1); rintro e w9 ⟨rfl, hb⟩; refine ⟨_, rfl, ?_⟩; have n0_ := Aside0.mk (Kd.R_below (by (with_reducible repeat (first | apply Kd.R_alloc | apply Kd.R_drewN | apply Kd.R_drew)); exact HO271.out) hb); have n1_ := Aside0.mk (Kd.R_below (by (with_reducible repeat (first | apply Kd.R_alloc | apply Kd.R_drewN | apply Kd.R_drew)); exact HO273.out) hb); have n2_ := Aside0.mk (below_step (by repeat (first | (with_reducible first | exact HB.out | apply below_alloc | apply pw_below_drewN | apply below_drew1) | exact HB.out)) hb); clear HO271; clear HO273; clear HB; have HO271 := n0_; have HO273 := n1_; have HB := n2_; clear n0_ n1_ n2_; (try clear hb); (try clear hb2); (try clear hk); (try clear hi); obtain ⟨Ao10, co10, eo10⟩ := Kd.R_slice HO273.out; subst eo10) | ((with_reducible refine gate_callee (f := 63) rfl ?_); refine goesL_ (some 19) rfl rfl Try.func63 (by kernel_rfl) rfl #[.int .i64 (t269.length : Int)] rfl (by (try simp only [List.map_toArray, List.map_cons, List.map_nil]); first | done | rfl | (simp only [List.length_drop, List.length_take]; rfl)) ?_; (with_reducible refine (impl_catalan.calls k (t269.length : Int) t275 _ A5.out).mono ?_); rintro e w' ⟨rfl, ⟨nd, rfl⟩⟩; refine ⟨_, rfl, ?_⟩) | ((with_reducible refine gate_callee (f := 47) rfl ?_); refine goesL_ (some 22) rfl rfl Try.func47 (by kernel_rfl) rfl #[.slice Ao10 t269.length co10] rfl (by (try simp only [List.map_toArray, List.map_cons, List.map_nil]); first | done | rfl | (simp only [List.length_drop, List.length_take]; rfl)) ?_; (with_reducible refine (ih k (by omega) _ _ t269 t276 _ ?side1 ?side2 A6.out).mono ?_); (case side1 => repeat (first | exact (Kd.R_reads' HO273.out).2.2 | (with_reducible refine Kd.C_alloc ?_ _) | (with_reducible refine Kd.C_drewN ?_ _) | (with_reducible refine Kd.C_drew ?_))); (case side2 => exact (Kd.R_reads' HO273.out).2.1); rintro e w11 ⟨rfl, hb⟩; refine ⟨_, rfl, ?_⟩; have n0_ := Aside0.mk (Kd.R_below (by (with_reducible repeat (first | apply Kd.R_alloc | apply Kd.R_drewN | apply Kd.R_drew)); exact HO271.out) hb); have n1_ := Aside0.mk (Kd.R_below (by (with_reducible repeat (first | apply Kd.R_alloc | apply Kd.R_drewN | apply Kd.R_drew)); exact HO273.out) hb); have n2_ := Aside0.mk (below_step (by repeat (first | (with_reducible first | exact HB.out | apply below_alloc | apply pw_below_drewN | apply below_drew1) | exact HB.out)) hb); clear HO271; clear HO273; clear HB; have HO271 := n0_; have HO273 := n1_; have HB := n2_; clear n0_ n1_ n2_; (try clear hb); (try clear hb2); (try clear hk); (try clear hi)))
    go_loopg [5, 6] k (fun kq v5 v6 w' => ∃ (x5_1 : Int) (x6_1 : Int), v5 = .int .i64 x5_1 ∧ v6 = .int .i64 x6_1 ∧ Aside0 (impl_rankOf.l0 kq l0 x5_1 x6_1 = some r) ∧ Aside0 (kq ≤ k) ∧ Aside0 (Below w.heap.size w w'))
    case atStart => exact ⟨(wrap64 ((wrap64 (t274 * t275)) + t276)), (1), (by first | rfl | (simp; done) | (simp [*]; done)), (by first | rfl | (simp; done) | (simp [*]; done)), H', ⟨Nat.le_refl _⟩, ⟨by repeat (first | (with_reducible first | exact HB.out | apply below_alloc | apply pw_below_drewN | apply below_drew1) | exact HB.out)⟩⟩
    case round =>
      clear H'
      try clear c2
      try clear c2b0
      try clear c2b1
      try clear c2b2
      try clear p2
      try clear c4
      try clear c6
      try clear p6
      obtain ⟨x5_1, x6_1, rfl, rfl, HA, HK1, HB⟩ := hrel
      cases gk with
      | zero => exact absurd HA.out (by simp [impl_rankOf.l0])
      | succ k1 =>
        have H := HA.out
        clear HA
        simp only [impl_rankOf.l0] at H
        by_cases c12 : 0 < (l0.length : Int)
        · rw [if_pos c12] at H
          have c12b0 : decide (0 < (l0.length : Int)) = true := decide_eq_true c12
          have c12b1 : decide (0 < l0.length) = true := decide_eq_true (by omega)
          clear c12
          by_cases c13 : x6_1 < (rd l0 0)
          · rw [if_pos c13] at H
            have c13b0 : decide (x6_1 < (rd l0 0)) = true := decide_eq_true c13
            clear c13
            replace H := Option.bind_eq_some_iff.mp H
            obtain ⟨t278, A140, H⟩ := H
            replace H : ((impl_catalan.f k1 (wrap64 ((l0.length : Int) - x6_1))).bind fun t279 => (impl_rankOf.l0 k1 l0 (wrap64 (x5_1 + (wrap64 (t278 * t279)))) (wrap64 (x6_1 + 1)))) = some r := H
            have A14 := Aside0.mk A140
            clear A140
            replace H := Option.bind_eq_some_iff.mp H
            obtain ⟨t279, A150, H⟩ := H
            replace H : (impl_rankOf.l0 k1 l0 (wrap64 (x5_1 + (wrap64 (t278 * t279)))) (wrap64 (x6_1 + 1))) = some r := H
            have A15 := Aside0.mk A150
            clear A150
            have H' := Aside0.mk H
            clear H
            have p277 : 0 ≤ (0 : Int) := (by omega)
            have q277 : 0 < (l0.length : Int) := of_decide_eq_true (by first | (with_reducible assumption) | assumption)
            obtain ⟨ad277, e277, hx277_0⟩ := Kd.at_int HR0.out 0 p277 q277
            cases e277
            have qi277 : (0 < l0.length) = True := eq_true (by omega)
            (try rw [show ((0 : Int)).toNat = 0 from rfl] at hx277_0)
            (try rw [Addr.add_zero'] at hx277_0)
            replace hx277_0 := (HB.out.cell (World.block_lt_of_cell? w _ hx277_0)).trans hx277_0
            replace p277 := eq_true p277
            replace q277 := eq_true q277
            go_wp2_with (first | ((with_reducible refine gate_callee (f := 63) rfl ?_); refine goesL_ (some 34) rfl rfl Try.func63 (by kernel_rfl) rfl #[.int .i64 (wrap64 (x6_1 - 1))] rfl (by (try simp only [List.map_toArray, List.map_cons, List.map_nil]); first | done | rfl | (simp only [List.length_drop, List.length_take]; rfl)) ?_; (with_reducible refine (impl_catalan.calls k1 (wrap64 (x6_1 - 1)) t278 _ A14.out).mono ?_); rintro e w' ⟨rfl, ⟨nd, rfl⟩⟩; refine ⟨_, rfl, ?_⟩) | ((with_reducible refine gate_callee (f := 63) rfl ?_); refine goesL_ (some 39) rfl rfl Try.func63 (by kernel_rfl) rfl #[.int .i64 (wrap64 ((l0.length : Int) - x6_1))] rfl (by (try simp only [List.map_toArray, List.map_cons, List.map_nil]); first | done | rfl | (simp only [List.length_drop, List.length_take]; rfl)) ?_; (with_reducible refine (impl_catalan.calls k1 (wrap64 ((l0.length : Int) - x6_1)) t279 _ A15.out).mono ?_); rintro e w' ⟨rfl, ⟨nd, rfl⟩⟩; refine ⟨_, rfl, ?_⟩))
            go_roundg k1
            case measure => have := HK1.out; omega
            case rel => exact ⟨(wrap64 (x5_1 + (wrap64 (t278 * t279)))), (wrap64 (x6_1 + 1)), (by first | rfl | (simp; done) | (simp [*]; done)), (by first | rfl | (simp; done) | (simp [*]; done)), H', ⟨by have := HK1.out; omega⟩, ⟨by repeat (first | (with_reducible first | exact HB.out | apply below_alloc | apply pw_below_drewN | apply below_drew1) | exact HB.out)⟩⟩
          · rw [if_neg c13] at H
            have c13b0 : decide (x6_1 < (rd l0 0)) = false := decide_eq_false c13
            clear c13
            obtain rfl := Option.some.inj H
            have p277 : 0 ≤ (0 : Int) := (by omega)
            have q277 : 0 < (l0.length : Int) := of_decide_eq_true (by first | (with_reducible assumption) | assumption)
            obtain ⟨ad277, e277, hx277_0⟩ := Kd.at_int HR0.out 0 p277 q277
            cases e277
            have qi277 : (0 < l0.length) = True := eq_true (by omega)
            (try rw [show ((0 : Int)).toNat = 0 from rfl] at hx277_0)
            (try rw [Addr.add_zero'] at hx277_0)
            replace hx277_0 := (HB.out.cell (World.block_lt_of_cell? w _ hx277_0)).trans hx277_0
            replace p277 := eq_true p277
            replace q277 := eq_true q277
            go_wp2
            go_ret
            exact ⟨by first | rfl | (simp [errW_none, errW_some] <;> rfl) | (simp [*, errW_none, errW_some] <;> rfl), by repeat (first | (with_reducible first | exact HB.out | apply below_alloc | apply pw_below_drewN | apply below_drew1) | exact HB.out)⟩
        · rw [if_neg c12] at H
          exact absurd H (by simp)

/-! ### impl_RankOfTree: function 25 -/
def impl_RankOfTree.f (k : Nat) (l0 : List Int) : Option (Int × Bool) := (impl_IsTree.f k l0).bind fun t280 => (if t280 = true then (if (l0.length : Int) > 20 then (some (0, false)) else ((impl_rankOf.f k l0).bind fun t281 => (some (t281, true)))) else (some (0, false)))
theorem impl_RankOfTree.mono : ∀ a0 k, LeO (impl_RankOfTree.f k a0) (impl_RankOfTree.f (k + 1) a0) := by
  intro a0 k
  unfold impl_RankOfTree.f
  repeat' first
      | (with_reducible exact impl_IsTree.mono _ _)
      | (with_reducible exact impl_rankOf.mono _ _)
      | (with_reducible exact LeO.refl _)
      | (with_reducible exact LeO.none _)
      | (with_reducible refine LeO.ite ?_ ?_)
      | (with_reducible refine LeO.bind ?_ (fun _ => ?_))
      | exact impl_IsTree.mono _ _
      | exact impl_rankOf.mono _ _
      | exact LeO.none _
      | refine LeO.ite ?_ ?_
      | refine LeO.bind ?_ (fun _ => ?_)
set_option maxHeartbeats 8000000 in
set_option maxRecDepth 100000 in
theorem impl_RankOfTree.calls (k : Nat) (A0 : Option Addr) (c0 : Nat) (l0 : List Int) (r1 : Int) (r2 : Bool) (w : World) (hr0 : Kd.C (Kd.int .i64) w A0 l0.length l0) (hc0 : l0.length ≤ c0) (h : impl_RankOfTree.f k l0 = some (r1, r2)) :
    Calls Try.prog 25 #[.slice A0 l0.length c0] w fun e w' => e = .returned (.tuple #[.int .i64 r1, .bool r2]) ∧ Below w.heap.size w w' := by
  have HR0 := Aside0.mk hr0
  have HC0 := Aside0.mk hc0
  clear hr0 hc0
  have HB := Aside0.mk (Below.refl w.heap.size w)
  have H : ((impl_IsTree.f k l0).bind fun t280 => (if t280 = true then (if (l0.length : Int) > 20 then (some (0, false)) else ((impl_rankOf.f k l0).bind fun t281 => (some (t281, true)))) else (some (0, false)))) = some (r1, r2) := h
  clear h
  replace H := Option.bind_eq_some_iff.mp H
  obtain ⟨t280, A20, H⟩ := H
  replace H : (if t280 = true then (if (l0.length : Int) > 20 then (some (0, false)) else ((impl_rankOf.f k l0).bind fun t281 => (some (t281, true)))) else (some (0, false))) = some (r1, r2) := H
  have A2 := Aside0.mk A20
  clear A20
  by_cases c3 : t280 = true
  · subst c3
    have H1 : (if (l0.length : Int) > 20 then (some (0, false)) else ((impl_rankOf.f k l0).bind fun t281 => (some (t281, true)))) = some (r1, r2) := by rw [if_pos rfl] at H; exact H
    clear H
    have H := H1
    clear H1
    by_cases c4 : (l0.length : Int) > 20
    · rw [if_pos c4] at H
      have c4b0 : decide (20 < (l0.length : Int)) = true := decide_eq_true c4
      have c4b1 : decide (20 < l0.length) = true := decide_eq_true (by omega)
      clear c4
      simp only [Option.some.injEq, Prod.mk.injEq] at H
      obtain ⟨rfl, rfl⟩ := H
      go_enter Try.func25, Try.ntmps25
      go_wp2_with (first | ((with_reducible refine gate_callee (f := 38) rfl ?_); refine goesL_ (some 5) rfl rfl Try.func38 (by kernel_rfl) rfl #[.slice A0 l0.length c0] rfl (by (try simp only [List.map_toArray, List.map_cons, List.map_nil]); first | done | rfl | (simp only [List.length_drop, List.length_take]; rfl)) ?_; (with_reducible refine (impl_IsTree.calls k _ _ l0 true _ ?side1 ?side2 A2.out).mono ?_); (case side1 => repeat (first | exact HR0.out | (with_reducible refine Kd.C_alloc ?_ _) | (with_reducible refine Kd.C_drewN ?_ _) | (with_reducible refine Kd.C_drew ?_))); (case side2 => exact HC0.out); rintro e w' ⟨rfl, ⟨nd, rfl⟩⟩; refine ⟨_, rfl, ?_⟩))
      go_ret2
      exact ⟨by first | rfl | (simp [errW_none, errW_some] <;> rfl) | (simp [*, errW_none, errW_some] <;> rfl), by repeat (first | (with_reducible first | exact HB.out | apply below_alloc | apply pw_below_drewN | apply below_drew1) | exact HB.out)⟩
    · rw [if_neg c4] at H
      have c4b0 : decide (20 < (l0.length : Int)) = false := decide_eq_false c4
      have c4b1 : decide (20 < l0.length) = false := decide_eq_false (by omega)
      clear c4
      replace H := Option.bind_eq_some_iff.mp H
      obtain ⟨t281, A50, H⟩ := H
      replace H : (some (t281, true)) = some (r1, r2) := H
      have A5 := Aside0.mk A50
      clear A50
      simp only [Option.some.injEq, Prod.mk.injEq] at H
      obtain ⟨rfl, rfl⟩ := H
      go_enter Try.func25, Try.ntmps25
      go_wp2_with (first | ((with_reducible refine gate_callee (f := 38) rfl ?_); refine goesL_ (some 5) rfl rfl Try.func38 (by kernel_rfl) rfl #[.slice A0 l0.length c0] rfl (by (try simp only [List.map_toArray, List.map_cons, List.map_nil]); first | done | rfl | (simp only [List.length_drop, List.length_take]; rfl)) ?_; (with_reducible refine (impl_IsTree.calls k _ _ l0 true _ ?side1 ?side2 A2.out).mono ?_); (case side1 => repeat (first | exact HR0.out | (with_reducible refine Kd.C_alloc ?_ _) | (with_reducible refine Kd.C_drewN ?_ _) | (with_reducible refine Kd.C_drew ?_))); (case side2 => exact HC0.out); rintro e w' ⟨rfl, ⟨nd, rfl⟩⟩; refine ⟨_, rfl, ?_⟩) | ((with_reducible refine gate_callee (f := 47) rfl ?_); refine goesL_ (some 13) rfl rfl Try.func47 (by kernel_rfl) rfl #[.slice A0 l0.length c0] rfl (by (try simp only [List.map_toArray, List.map_cons, List.map_nil]); first | done | rfl | (simp only [List.length_drop, List.length_take]; rfl)) ?_; (with_reducible refine (impl_rankOf.calls k _ _ l0 t281 _ ?side1 ?side2 A5.out).mono ?_); (case side1 => repeat (first | exact HR0.out | (with_reducible refine Kd.C_alloc ?_ _) | (with_reducible refine Kd.C_drewN ?_ _) | (with_reducible refine Kd.C_drew ?_))); (case side2 => exact HC0.out); rintro e w6 ⟨rfl, hb⟩; refine ⟨_, rfl, ?_⟩; have n0_ := Aside0.mk (below_step (by repeat (first | (with_reducible first | exact HB.out | apply below_alloc | apply pw_below_drewN | apply below_drew1) | exact HB.out)) hb); clear HB; have HB := n0_; clear n0_; (try clear hb); (try clear hb2); (try clear hk); (try clear hi)))
      go_ret2
      exact ⟨by first | rfl | (simp [errW_none, errW_some] <;> rfl) | (simp [*, errW_none, errW_some] <;> rfl), by repeat (first | (with_reducible first | exact HB.out | apply below_alloc | apply pw_below_drewN | apply below_drew1) | exact HB.out)⟩
  · replace c3 := Bool.eq_false_iff.mpr c3
    subst c3
    have H1 : (some (0, false)) = some (r1, r2) := by rw [if_neg (show ¬ (false = true) by decide)] at H; exact H
    clear H
    have H := H1
    clear H1
    simp only [Option.some.injEq, Prod.mk.injEq] at H
    obtain ⟨rfl, rfl⟩ := H
    go_enter Try.func25, Try.ntmps25
    go_wp2_with (first | ((with_reducible refine gate_callee (f := 38) rfl ?_); refine goesL_ (some 5) rfl rfl Try.func38 (by kernel_rfl) rfl #[.slice A0 l0.length c0] rfl (by (try simp only [List.map_toArray, List.map_cons, List.map_nil]); first | done | rfl | (simp only [List.length_drop, List.length_take]; rfl)) ?_; (with_reducible refine (impl_IsTree.calls k _ _ l0 false _ ?side1 ?side2 A2.out).mono ?_); (case side1 => repeat (first | exact HR0.out | (with_reducible refine Kd.C_alloc ?_ _) | (with_reducible refine Kd.C_drewN ?_ _) | (with_reducible refine Kd.C_drew ?_))); (case side2 => exact HC0.out); rintro e w' ⟨rfl, ⟨nd, rfl⟩⟩; refine ⟨_, rfl, ?_⟩))
    go_ret2
    exact ⟨by first | rfl | (simp [errW_none, errW_some] <;> rfl) | (simp [*, errW_none, errW_some] <;> rfl), by repeat (first | (with_reducible first | exact HB.out | apply below_alloc | apply pw_below_drewN | apply below_drew1) | exact HB.out)⟩

/-! ### laws_FnExactRankOfTree: function 7, a law -/
/-- THE ONE PURE STATEMENT of laws_FnExactRankOfTree. -/
def laws_FnExactRankOfTree.Pure : Prop := ∀ (l0 : List Int), (∀ x ∈ l0, (Lit.int .i64 x).wf = true) → l0.length ≤ 1000000 → ∃ (k1 : Nat) (k2 : Nat) (r1 : Int) (r2 : Bool), spec_RankOfTree.f k1 l0 = some (r1, r2) ∧ impl_RankOfTree.f k2 l0 = some (r1, r2)
set_option maxHeartbeats 8000000 in
set_option maxRecDepth 100000 in
theorem laws_FnExactRankOfTree.alike (k1 : Nat) (k2 : Nat) (A0 : Option Addr) (c0 : Nat) (l0 : List Int) (r1 : Int) (r2 : Bool) (w : World) (hr0 : Kd.C (Kd.int .i64) w A0 l0.length l0) (hc0 : l0.length ≤ c0) (hl : l0.length ≤ 1000000) (hs : spec_RankOfTree.f k1 l0 = some (r1, r2)) (hi : impl_RankOfTree.f k2 l0 = some (r1, r2)) :
    Calls Try.prog 7 #[.slice A0 l0.length c0] w fun e w' => e = .returned (.bool true) ∧ Below w.heap.size w w' := by
  have HR0 := Aside0.mk hr0
  have HC0 := Aside0.mk hc0
  clear hr0 hc0
  have HL0 : Aside0 (l0.length ≤ 1000000) := ⟨by omega⟩
  have HS := Aside0.mk hs
  have HI := Aside0.mk hi
  clear hs hi
  have HB := Aside0.mk (Below.refl w.heap.size w)
  go_enter Try.func7, Try.ntmps7
  go_wp2_with fail
  refine (toIntS_full _ c0 l0 _ (Kd.C_below HR0.out HB.out) HL0.out).mono ?_
  rintro e w1_ ⟨g3_, c4_, rfl, hf, hb⟩
  have HB0 : Aside0 (w.heap.size ≤ w.heap.size) := ⟨HB.out.size⟩
  have HZ1 : Aside0 (w.heap.size ≤ w1_.heap.size) := ⟨hb.size⟩
  have HB_ := Aside0.mk (below_step HB.out hb)
  clear HB hb
  have HB := HB_
  clear HB_
  have F2_ := Aside0.mk (show FullG w1_ w.heap.size (Btw w.heap.size w1_.heap.size) _ _ _ from r_btw hf (by have := HB0.out; exact this))
  clear hf HB0
  go_wp2_with fail
  refine (spec_RankOfTree.calls k1 (some ⟨g3_, 0, none⟩) c4_ l0 r1 r2 _ (FullG.reads F2_.out).2 (FullG.reads F2_.out).1 HS.out).mono ?_
  rintro e w2_ ⟨rfl, hb⟩
  have HB0 : Aside0 (w.heap.size ≤ w1_.heap.size) := ⟨HB.out.size⟩
  have HZ2 : Aside0 (w1_.heap.size ≤ w2_.heap.size) := ⟨hb.size⟩
  have F2__ := Aside0.mk (FullG.below F2_.out hb)
  clear F2_
  have F2_ := F2__
  clear F2__
  have HB_ := Aside0.mk (below_step HB.out hb)
  clear HB hb
  have HB := HB_
  clear HB_
  clear HB0
  go_wp2_with fail
  refine (toIntS_full _ c0 l0 _ (Kd.C_below HR0.out HB.out) HL0.out).mono ?_
  rintro e w3_ ⟨g6_, c7_, rfl, hf, hb⟩
  have HB0 : Aside0 (w.heap.size ≤ w2_.heap.size) := ⟨HB.out.size⟩
  have HZ3 : Aside0 (w2_.heap.size ≤ w3_.heap.size) := ⟨hb.size⟩
  have F2__ := Aside0.mk (FullG.below F2_.out hb)
  clear F2_
  have F2_ := F2__
  clear F2__
  have HB_ := Aside0.mk (below_step HB.out hb)
  clear HB hb
  have HB := HB_
  clear HB_
  have F5_ := Aside0.mk (show FullG w3_ w.heap.size (Btw w2_.heap.size w3_.heap.size) _ _ _ from r_btw hf (by have := HB0.out; exact this))
  clear hf HB0
  go_wp2_with fail
  refine (impl_RankOfTree.calls k2 (some ⟨g6_, 0, none⟩) c7_ l0 r1 r2 _ (FullG.reads F5_.out).2 (FullG.reads F5_.out).1 HI.out).mono ?_
  rintro e w4_ ⟨rfl, hb⟩
  have HB0 : Aside0 (w.heap.size ≤ w3_.heap.size) := ⟨HB.out.size⟩
  have HZ4 : Aside0 (w3_.heap.size ≤ w4_.heap.size) := ⟨hb.size⟩
  have F2__ := Aside0.mk (FullG.below F2_.out hb)
  clear F2_
  have F2_ := F2__
  clear F2__
  have F5__ := Aside0.mk (FullG.below F5_.out hb)
  clear F5_
  have F5_ := F5__
  clear F5__
  have HB_ := Aside0.mk (below_step HB.out hb)
  clear HB hb
  have HB := HB_
  clear HB_
  clear HB0
  go_wp2_with fail
  refine (toIntS_full _ c0 l0 _ (Kd.C_below HR0.out HB.out) HL0.out).mono ?_
  rintro e w5_ ⟨g10_, c11_, rfl, hf, hb⟩
  have HB0 : Aside0 (w.heap.size ≤ w4_.heap.size) := ⟨HB.out.size⟩
  have HZ5 : Aside0 (w4_.heap.size ≤ w5_.heap.size) := ⟨hb.size⟩
  have F2__ := Aside0.mk (FullG.below F2_.out hb)
  clear F2_
  have F2_ := F2__
  clear F2__
  have F5__ := Aside0.mk (FullG.below F5_.out hb)
  clear F5_
  have F5_ := F5__
  clear F5__
  have HB_ := Aside0.mk (below_step HB.out hb)
  clear HB hb
  have HB := HB_
  clear HB_
  have F9_ := Aside0.mk (show FullG w5_ w.heap.size (Btw w4_.heap.size w5_.heap.size) _ _ _ from r_btw hf (by have := HB0.out; exact this))
  clear hf HB0
  go_wp2_with fail
  refine (intactIntS_full _ _ _ _ _ _ _ _ _ _ F5_.out F9_.out HL0.out).mono ?_
  rintro e w6_ ⟨rfl, hd⟩
  have hb := hd.below
  clear hd
  have HZ6 : Aside0 (w5_.heap.size ≤ w6_.heap.size) := ⟨hb.size⟩
  have F2__ := Aside0.mk (FullG.below F2_.out hb)
  clear F2_
  have F2_ := F2__
  clear F2__
  have F5__ := Aside0.mk (FullG.below F5_.out hb)
  clear F5_
  have F5_ := F5__
  clear F5__
  have F9__ := Aside0.mk (FullG.below F9_.out hb)
  clear F9_
  have F9_ := F9__
  clear F9__
  have HB_ := Aside0.mk (below_step HB.out hb)
  clear HB hb
  have HB := HB_
  clear HB_
  go_wp2_with fail
  refine (toIntS_bare _ c0 l0 _ (Kd.C_below HR0.out HB.out) HL0.out).mono ?_
  rintro e w7_ ⟨A16_, c15_, rfl, hf, hb⟩
  have HB0 : Aside0 (w.heap.size ≤ w6_.heap.size) := ⟨HB.out.size⟩
  have HZ7 : Aside0 (w6_.heap.size ≤ w7_.heap.size) := ⟨hb.size⟩
  have F2__ := Aside0.mk (FullG.below F2_.out hb)
  clear F2_
  have F2_ := F2__
  clear F2__
  have F5__ := Aside0.mk (FullG.below F5_.out hb)
  clear F5_
  have F5_ := F5__
  clear F5__
  have F9__ := Aside0.mk (FullG.below F9_.out hb)
  clear F9_
  have F9_ := F9__
  clear F9__
  have HB_ := Aside0.mk (below_step HB.out hb)
  clear HB hb
  have HB := HB_
  clear HB_
  have F13_ := Aside0.mk (r_btw (b0 := w.heap.size) hf (by have := HB0.out; exact this))
  clear hf HB0
  go_wp2_with fail
  refine (impl_RankOfTree.calls k2 A16_ c15_ l0 r1 r2 _ (Kd.R_reads' F13_.out).2.2 (Kd.R_reads' F13_.out).2.1 HI.out).mono ?_
  rintro e w8_ ⟨rfl, hb⟩
  have HB0 : Aside0 (w.heap.size ≤ w7_.heap.size) := ⟨HB.out.size⟩
  have HZ8 : Aside0 (w7_.heap.size ≤ w8_.heap.size) := ⟨hb.size⟩
  have F2__ := Aside0.mk (FullG.below F2_.out hb)
  clear F2_
  have F2_ := F2__
  clear F2__
  have F5__ := Aside0.mk (FullG.below F5_.out hb)
  clear F5_
  have F5_ := F5__
  clear F5__
  have F9__ := Aside0.mk (FullG.below F9_.out hb)
  clear F9_
  have F9_ := F9__
  clear F9__
  have F13__ := Aside0.mk (Kd.R_below F13_.out hb)
  clear F13_
  have F13_ := F13__
  clear F13__
  have HB_ := Aside0.mk (below_step HB.out hb)
  clear HB hb
  have HB := HB_
  clear HB_
  clear HB0
  go_wp2
  go_ret
  exact ⟨rfl, HB.out⟩
set_option maxHeartbeats 4000000 in
set_option maxRecDepth 100000 in
theorem laws_FnExactRankOfTree.walk (P : laws_FnExactRankOfTree.Pure) (a0 : Option Addr) (len0 cap0 : Nat) (z0 : List Int) (w : World) (w0 : (a0 = none ∧ len0 = 0 ∧ cap0 = 0 ∧ z0 = []) ∨ ∃ x, a0 = some x ∧ len0 ≤ cap0 ∧ cap0 ≤ maxLen ∧ z0.length = cap0 ∧ (∀ i, i < z0.length → w.cell? (x.add i) = some (.int .i64 (z0.getD i 0))) ∧ ∀ n ∈ z0, (Lit.int .i64 n).wf = true) (y0 : len0 * 8 ≤ 140737488351232) :
    Calls Try.prog 7 #[.slice a0 len0 cap0] w fun e w' => e = .returned (.bool true) ∧ Below w.heap.size w w' := by
  obtain ⟨l0, rfl, hr0, hm0, hw0, hc0⟩ := ReadsInt.ofRowC w0
  by_cases hl : l0.length ≤ 1000000
  · obtain ⟨k1, k2, r1, r2, hs, hi⟩ := P l0 hw0 hl
    exact laws_FnExactRankOfTree.alike k1 k2 _ _ l0 r1 r2 w (Kd.C_of_reads (d := (0 : Int)) (h1 := fun _ => rfl) hr0) hc0 hl hs hi
  · clear hr0 hc0
    go_enter Try.func7, Try.ntmps7
    go_wp2
    go_ret
    exact ⟨rfl, Below.refl _ _⟩


end Go.Proofs.Ytmclbiollhdbjaa.PrintZ
