-- written by this session's own driver (wip/gen.py) with the kit's print and contracts of our own
import Derived.Test.YtalalaepdjmelaaPrintF0
import Derived.Test.YtalalaepdjmelaaPrintF1
import Derived.Test.YtalalaepdjmelaaPrintF4
import Derived.Test.YtalalaepdjmelaaPrintF6
import Derived.Test.YtalalaepdjmelaaPrintF7
import Derived.Test.YtalalaepdjmelaaPrintF9
import Derived.Test.YtalalaepdjmelaaPrintF10
import Derived.BigRegion
namespace Go.Proofs.Ytalalaepdjmelaa.PrintF
open Go.RowKit Go.Proofs.YtalalaepdjmelaaLib Go.Proofs.YtalalaepdjmelaaW.PrintWords Go.Proofs.YtalalaepdjmelaaW.PrintLast Go.Proofs.YtalalaepdjmelaaW.PrintMore
attribute [local go_sem] max2_int min2_int max_two min_two max_three min_three max_four min_four   -- for this text's walks alone
set_option linter.unusedVariables false
set_option linter.unusedSimpArgs false

/-! ### spec_CountBestMarks: function 24 -/
def spec_CountBestMarks.l0 : Nat → Int → Int → List (List Int) → Int → Int → Option (Int × Bool)
  | 0, _, _, _, _, _ => none
  | k + 1, x0, x4, x11, x12, x13 => if x13 < x12 then (if 0 ≤ x13 then (if x13 < (x11.length : Int) then ((spec_stWorst.f k x0 (rd_L3 x11 x13)).bind fun t220 => ((spec_flFew.f k 2 x0).bind fun t221 => (if t220 = t221 then (spec_CountBestMarks.l0 k x0 (wrap64 (x4 + 1)) x11 x12 (wrap64 (x13 + 1))) else (spec_CountBestMarks.l0 k x0 x4 x11 x12 (wrap64 (x13 + 1)))))) else (none)) else (none)) else (some (x4, true))
def spec_CountBestMarks.f (k : Nat) (a0 : Int) : Option (Int × Bool) := (spec_l1In.f a0 0 14).bind fun t215 => (if t215 = true then ((spec_stAll.f k a0 ([] : List Int)).bind fun t216 => (spec_CountBestMarks.l0 k a0 0 t216 (t216.length : Int) 0)) else (some (0, false)))
theorem spec_CountBestMarks.mono_l : ∀ k, (∀ y0 y1 y2 y3 y4, LeO (spec_CountBestMarks.l0 k y0 y1 y2 y3 y4) (spec_CountBestMarks.l0 (k + 1) y0 y1 y2 y3 y4))
  | 0 => fun _ _ _ _ _ r h => by simp [spec_CountBestMarks.l0] at h
  | k + 1 => by
    have ih0 := spec_CountBestMarks.mono_l k
    · intro y0 y1 y2 y3 y4
      unfold spec_CountBestMarks.l0
      repeat' first
      | (with_reducible exact ih0 _ _ _ _ _)
      | (with_reducible exact spec_flFew.mono _ _ _)
      | (with_reducible exact spec_stAll.mono _ _ _)
      | (with_reducible exact spec_stWorst.mono _ _ _)
      | (with_reducible exact LeO.refl _)
      | (with_reducible exact LeO.none _)
      | (with_reducible refine LeO.ite ?_ ?_)
      | (with_reducible refine LeO.bind ?_ (fun _ => ?_))
      | exact ih0 _ _ _ _ _
      | exact spec_flFew.mono _ _ _
      | exact spec_stAll.mono _ _ _
      | exact spec_stWorst.mono _ _ _
      | exact LeO.none _
      | refine LeO.ite ?_ ?_
      | refine LeO.bind ?_ (fun _ => ?_)
theorem spec_CountBestMarks.mono : ∀ a0 k, LeO (spec_CountBestMarks.f k a0) (spec_CountBestMarks.f (k + 1) a0) := by
  intro a0 k
  have ih0 := spec_CountBestMarks.mono_l k
  unfold spec_CountBestMarks.f
  repeat' first
      | (with_reducible exact ih0 _ _ _ _ _)
      | (with_reducible exact spec_flFew.mono _ _ _)
      | (with_reducible exact spec_stAll.mono _ _ _)
      | (with_reducible exact spec_stWorst.mono _ _ _)
      | (with_reducible exact LeO.refl _)
      | (with_reducible exact LeO.none _)
      | (with_reducible refine LeO.ite ?_ ?_)
      | (with_reducible refine LeO.bind ?_ (fun _ => ?_))
      | exact ih0 _ _ _ _ _
      | exact spec_flFew.mono _ _ _
      | exact spec_stAll.mono _ _ _
      | exact spec_stWorst.mono _ _ _
      | exact LeO.none _
      | refine LeO.ite ?_ ?_
      | refine LeO.bind ?_ (fun _ => ?_)
set_option maxHeartbeats 8000000 in
set_option maxRecDepth 100000 in
theorem spec_CountBestMarks.calls (k : Nat) (a0 : Int) (r1 : Int) (r2 : Bool) (w : World) (h : spec_CountBestMarks.f k a0 = some (r1, r2)) :
    Calls Try.prog 24 #[.int .i64 a0] w fun e w' => e = .returned (.tuple #[.int .i64 r1, .bool r2]) ∧ Below w.heap.size w w' := by
  have HB := Aside0.mk (Below.refl w.heap.size w)
  have H : ((spec_l1In.f a0 0 14).bind fun t215 => (if t215 = true then ((spec_stAll.f k a0 ([] : List Int)).bind fun t216 => (spec_CountBestMarks.l0 k a0 0 t216 (t216.length : Int) 0)) else (some (0, false)))) = some (r1, r2) := h
  clear h
  replace H := Option.bind_eq_some_iff.mp H
  obtain ⟨t215, A20, H⟩ := H
  replace H : (if t215 = true then ((spec_stAll.f k a0 ([] : List Int)).bind fun t216 => (spec_CountBestMarks.l0 k a0 0 t216 (t216.length : Int) 0)) else (some (0, false))) = some (r1, r2) := H
  have A2 := Aside0.mk A20
  clear A20
  by_cases c3 : t215 = true
  · subst c3
    have H1 : ((spec_stAll.f k a0 ([] : List Int)).bind fun t216 => (spec_CountBestMarks.l0 k a0 0 t216 (t216.length : Int) 0)) = some (r1, r2) := by rw [if_pos rfl] at H; exact H
    clear H
    have H := H1
    clear H1
    replace H := Option.bind_eq_some_iff.mp H
    obtain ⟨t216, A40, H⟩ := H
    replace H : (spec_CountBestMarks.l0 k a0 0 t216 (t216.length : Int) 0) = some (r1, r2) := H
    have A4 := Aside0.mk A40
    clear A40
    have H' := Aside0.mk H
    clear H
    go_enter Try.func24, Try.ntmps24
    go_wp2_with (first | ((with_reducible refine gate_callee (f := 27) rfl ?_); refine goesL_ (some 8) rfl rfl Try.func27 (by kernel_rfl) rfl #[.int .i64 a0, .int .i64 0, .int .i64 14] rfl (by (try simp only [List.map_toArray, List.map_cons, List.map_nil]); first | done | rfl | (simp only [List.length_drop, List.length_take]; rfl)) ?_; (with_reducible refine (spec_l1In.calls0 a0 0 14 true _ A2.out).mono ?_); rintro e w' ⟨rfl, rfl⟩; refine ⟨_, rfl, ?_⟩) | ((with_reducible refine gate_callee (f := 47) rfl ?_); refine goesL_ (some 11) rfl rfl Try.func47 (by kernel_rfl) rfl #[.int .i64 a0, .slice none 0 0] rfl (by (try simp only [List.map_toArray, List.map_cons, List.map_nil]); first | done | rfl | (simp only [List.length_drop, List.length_take]; rfl)) ?_; (refine (spec_stAll.calls k a0 _ _ ([] : List Int) t216 _ ?side1 ?side2 A4.out).mono ?_); (case side1 => exact Kd.C_nil _ _); (case side2 => exact Nat.le_refl _); rintro e w5 ⟨v217, rfl, ho0, hb⟩; refine ⟨_, rfl, ?_⟩; have n0_ := Aside0.mk (Kd.N_lower (Kd.N_mono (ok' := fun k_ => True) ho0 (fun k_ hk_ => trivial)) (below_size (by repeat (first | (with_reducible first | exact HB.out | apply below_alloc | apply pw_below_drewN | apply below_drew1) | exact HB.out)))); have n1_ := Aside0.mk (below_step (by repeat (first | (with_reducible first | exact HB.out | apply below_alloc | apply pw_below_drewN | apply below_drew1) | exact HB.out)) hb); clear HB; have HO218 := n0_; have HB := n1_; clear n0_ n1_; (try clear hb); (try clear hb2); (try clear hk); (try clear hi); (try clear ho0); obtain ⟨Ao6, co6, eo6⟩ := Kd.N_slice HO218.out; subst eo6))
    go_loopg [4, 13] k (fun kq v4 v13 w' => ∃ (x4_1 : Int) (x13_1 : Int), v4 = .int .i64 x4_1 ∧ v13 = .int .i64 x13_1 ∧ Aside0 (spec_CountBestMarks.l0 kq a0 x4_1 t216 (t216.length : Int) x13_1 = some (r1, r2)) ∧ Aside0 (kq ≤ k) ∧ Aside0 (Kd.N (Kd.slice 3 (Kd.int .i64)) 22 w' w.heap.size (fun _ => True) (.slice Ao6 t216.length co6) t216) ∧ Aside0 (Below w.heap.size w w'))
    case atStart => exact ⟨(0), (0), (by first | rfl | (simp; done) | (simp [*]; done)), (by first | rfl | (simp; done) | (simp [*]; done)), H', ⟨Nat.le_refl _⟩, ⟨by (with_reducible repeat (first | apply Kd.N_alloc | apply Kd.N_drewN | apply Kd.N_drew)); exact HO218.out⟩, ⟨by repeat (first | (with_reducible first | exact HB.out | apply below_alloc | apply pw_below_drewN | apply below_drew1) | exact HB.out)⟩⟩
    case round =>
      clear H'
      try clear c2
      try clear p2
      try clear c3
      try clear c4
      obtain ⟨x4_1, x13_1, rfl, rfl, HA, HK1, HO_11, HB⟩ := hrel
      cases gk with
      | zero => exact absurd HA.out (by simp [spec_CountBestMarks.l0])
      | succ k1 =>
        have H := HA.out
        clear HA
        simp only [spec_CountBestMarks.l0] at H
        by_cases c7 : x13_1 < (t216.length : Int)
        · rw [if_pos c7] at H
          have c7b0 : decide (x13_1 < (t216.length : Int)) = true := decide_eq_true c7
          clear c7
          by_cases c8 : 0 ≤ x13_1
          · rw [if_pos c8] at H
            have c8b0 : decide (0 ≤ x13_1) = true := decide_eq_true c8
            clear c8
            by_cases c9 : x13_1 < (t216.length : Int)
            · rw [if_pos c9] at H
              have c9b0 : decide (x13_1 < (t216.length : Int)) = true := decide_eq_true c9
              clear c9
              replace H := Option.bind_eq_some_iff.mp H
              obtain ⟨t220, A100, H⟩ := H
              replace H : ((spec_flFew.f k1 2 a0).bind fun t221 => (if t220 = t221 then (spec_CountBestMarks.l0 k1 a0 (wrap64 (x4_1 + 1)) t216 (t216.length : Int) (wrap64 (x13_1 + 1))) else (spec_CountBestMarks.l0 k1 a0 x4_1 t216 (t216.length : Int) (wrap64 (x13_1 + 1))))) = some (r1, r2) := H
              have A10 := Aside0.mk A100
              clear A100
              replace H := Option.bind_eq_some_iff.mp H
              obtain ⟨t221, A110, H⟩ := H
              replace H : (if t220 = t221 then (spec_CountBestMarks.l0 k1 a0 (wrap64 (x4_1 + 1)) t216 (t216.length : Int) (wrap64 (x13_1 + 1))) else (spec_CountBestMarks.l0 k1 a0 x4_1 t216 (t216.length : Int) (wrap64 (x13_1 + 1)))) = some (r1, r2) := H
              have A11 := Aside0.mk A110
              clear A110
              by_cases c12 : t220 = t221
              · rw [if_pos c12] at H
                have c12b0 : (t220 == t221) = true := beq_iff_eq.mpr c12
                have c12b1 : (t220 != t221) = false := bne_eq_false_iff_eq.mpr c12
                clear c12
                have H' := Aside0.mk H
                clear H
                have p219 : 0 ≤ (x13_1 : Int) := of_decide_eq_true (by first | (with_reducible assumption) | assumption)
                have q219 : x13_1 < (t216.length : Int) := of_decide_eq_true (by first | (with_reducible assumption) | assumption)
                obtain ⟨ad219, A219_0, c219_0, e219, hx219_0, hl219_0, hi219_0⟩ := at_L3 (Kd.N_reads' HO_11.out).2.2 x13_1 p219 q219
                cases e219
                obtain ⟨ce219, hce219, hMe219, hcc219⟩ := Kd.N_get HO_11.out [] x13_1 p219 (by first | exact q219 | exact of_decide_eq_true (by first | (with_reducible assumption) | assumption) | (have e_ := (Kd.N_reads' HO_11.out).1; omega))
                obtain ⟨ua219_0, uc219_0, rfl, ul219_0, ge219_0⟩ := Kd.FK_slice_open hMe219
                have hv219_0 := hcc219 0 _ rfl
                rw [Nat.add_zero, show ((Kd.slice 3 (Kd.int .i64))).sz = 1 from rfl, Nat.mul_one] at hv219_0
                replace hv219_0 := Option.some.inj (hv219_0.symm.trans hx219_0)
                injection hv219_0 with hva_ hvn_ hvc_
                rw [hva_] at ge219_0
                rw [hvc_] at ul219_0
                have HL219_0 := Aside0.mk (show Kd.V (Kd.int .i64) 3 _ w.heap.size _ _ (rd_L3 t216 x13_1) from Kd.V_mk ul219_0 ge219_0)
                clear hva_ hvn_ hvc_ ge219_0 ul219_0
                clear hcc219 hce219
                have HR219_0 := Aside0.mk hi219_0
                have HC219_0 := Aside0.mk hl219_0
                clear hi219_0 hl219_0
                replace p219 := eq_true p219
                replace q219 := eq_true q219
                go_wp2_with (first | ((with_reducible refine gate_callee (f := 35) rfl ?_); refine goesL_ (some 19) rfl rfl Try.func35 (by kernel_rfl) rfl #[.int .i64 a0, .slice A219_0 (rd_L3 t216 x13_1).length c219_0] rfl (by (try simp only [List.map_toArray, List.map_cons, List.map_nil]); first | done | rfl | (simp only [List.length_drop, List.length_take]; rfl)) ?_; (with_reducible refine (spec_stWorst.calls k1 a0 _ _ (rd_L3 t216 x13_1) t220 _ ?side1 ?side2 A10.out).mono ?_); (case side1 => repeat (first | exact (by repeat (first | (with_reducible exact HR219_0.out) | (with_reducible refine Kd.C_alloc ?_ _) | (with_reducible refine Kd.C_drewN ?_ _) | (with_reducible refine Kd.C_drew ?_) | exact HR219_0.out)) | (with_reducible refine Kd.C_alloc ?_ _) | (with_reducible refine Kd.C_drewN ?_ _) | (with_reducible refine Kd.C_drew ?_))); (case side2 => exact HC219_0.out); rintro e w13 ⟨rfl, hb⟩; refine ⟨_, rfl, ?_⟩; have n0_ := Aside0.mk (Kd.N_below (by (with_reducible repeat (first | apply Kd.N_alloc | apply Kd.N_drewN | apply Kd.N_drew)); exact HO_11.out) hb); have n1_ := Aside0.mk (Kd.V_below (by (with_reducible repeat (first | apply Kd.V_alloc | apply Kd.V_drewN | apply Kd.V_drew)); exact HL219_0.out) hb); have n2_ := Aside0.mk (Kd.C_below (by repeat (first | (with_reducible exact HR219_0.out) | (with_reducible refine Kd.C_alloc ?_ _) | (with_reducible refine Kd.C_drewN ?_ _) | (with_reducible refine Kd.C_drew ?_) | exact HR219_0.out)) hb); have n3_ := Aside0.mk (below_step (by repeat (first | (with_reducible first | exact HB.out | apply below_alloc | apply pw_below_drewN | apply below_drew1) | exact HB.out)) hb); clear HO_11; clear HL219_0; clear HR219_0; clear HB; have HO_11 := n0_; have HL219_0 := n1_; have HR219_0 := n2_; have HB := n3_; clear n0_ n1_ n2_ n3_; (try clear hb); (try clear hb2); (try clear hk); (try clear hi)) | ((with_reducible refine gate_callee (f := 48) rfl ?_); refine goesL_ (some 21) rfl rfl Try.func48 (by kernel_rfl) rfl #[.int .i64 2, .int .i64 a0] rfl (by (try simp only [List.map_toArray, List.map_cons, List.map_nil]); first | done | rfl | (simp only [List.length_drop, List.length_take]; rfl)) ?_; (with_reducible refine (spec_flFew.calls k1 2 a0 t221 _ A11.out).mono ?_); rintro e w14 ⟨rfl, hb⟩; refine ⟨_, rfl, ?_⟩; have n0_ := Aside0.mk (Kd.N_below (by (with_reducible repeat (first | apply Kd.N_alloc | apply Kd.N_drewN | apply Kd.N_drew)); exact HO_11.out) hb); have n1_ := Aside0.mk (Kd.V_below (by (with_reducible repeat (first | apply Kd.V_alloc | apply Kd.V_drewN | apply Kd.V_drew)); exact HL219_0.out) hb); have n2_ := Aside0.mk (Kd.C_below (by repeat (first | (with_reducible exact HR219_0.out) | (with_reducible refine Kd.C_alloc ?_ _) | (with_reducible refine Kd.C_drewN ?_ _) | (with_reducible refine Kd.C_drew ?_) | exact HR219_0.out)) hb); have n3_ := Aside0.mk (below_step (by repeat (first | (with_reducible first | exact HB.out | apply below_alloc | apply pw_below_drewN | apply below_drew1) | exact HB.out)) hb); clear HO_11; clear HL219_0; clear HR219_0; clear HB; have HO_11 := n0_; have HL219_0 := n1_; have HR219_0 := n2_; have HB := n3_; clear n0_ n1_ n2_ n3_; (try clear hb); (try clear hb2); (try clear hk); (try clear hi)))
                go_roundg k1
                case measure => have := HK1.out; omega
                case rel => exact ⟨(wrap64 (x4_1 + 1)), (wrap64 (x13_1 + 1)), (by first | rfl | (simp; done) | (simp [*]; done)), (by first | rfl | (simp; done) | (simp [*]; done)), H', ⟨by have := HK1.out; omega⟩, ⟨by (with_reducible repeat (first | apply Kd.N_alloc | apply Kd.N_drewN | apply Kd.N_drew)); exact HO_11.out⟩, ⟨by repeat (first | (with_reducible first | exact HB.out | apply below_alloc | apply pw_below_drewN | apply below_drew1) | exact HB.out)⟩⟩
              · rw [if_neg c12] at H
                have c12b0 : (t220 == t221) = false := beq_eq_false_iff_ne.mpr c12
                have c12b1 : (t220 != t221) = true := bne_iff_ne.mpr c12
                have H' := Aside0.mk H
                clear H
                have p219 : 0 ≤ (x13_1 : Int) := of_decide_eq_true (by first | (with_reducible assumption) | assumption)
                have q219 : x13_1 < (t216.length : Int) := of_decide_eq_true (by first | (with_reducible assumption) | assumption)
                obtain ⟨ad219, A219_0, c219_0, e219, hx219_0, hl219_0, hi219_0⟩ := at_L3 (Kd.N_reads' HO_11.out).2.2 x13_1 p219 q219
                cases e219
                obtain ⟨ce219, hce219, hMe219, hcc219⟩ := Kd.N_get HO_11.out [] x13_1 p219 (by first | exact q219 | exact of_decide_eq_true (by first | (with_reducible assumption) | assumption) | (have e_ := (Kd.N_reads' HO_11.out).1; omega))
                obtain ⟨ua219_0, uc219_0, rfl, ul219_0, ge219_0⟩ := Kd.FK_slice_open hMe219
                have hv219_0 := hcc219 0 _ rfl
                rw [Nat.add_zero, show ((Kd.slice 3 (Kd.int .i64))).sz = 1 from rfl, Nat.mul_one] at hv219_0
                replace hv219_0 := Option.some.inj (hv219_0.symm.trans hx219_0)
                injection hv219_0 with hva_ hvn_ hvc_
                rw [hva_] at ge219_0
                rw [hvc_] at ul219_0
                have HL219_0 := Aside0.mk (show Kd.V (Kd.int .i64) 3 _ w.heap.size _ _ (rd_L3 t216 x13_1) from Kd.V_mk ul219_0 ge219_0)
                clear hva_ hvn_ hvc_ ge219_0 ul219_0
                clear hcc219 hce219
                have HR219_0 := Aside0.mk hi219_0
                have HC219_0 := Aside0.mk hl219_0
                clear hi219_0 hl219_0
                replace p219 := eq_true p219
                replace q219 := eq_true q219
                go_wp2_with (first | ((with_reducible refine gate_callee (f := 35) rfl ?_); refine goesL_ (some 19) rfl rfl Try.func35 (by kernel_rfl) rfl #[.int .i64 a0, .slice A219_0 (rd_L3 t216 x13_1).length c219_0] rfl (by (try simp only [List.map_toArray, List.map_cons, List.map_nil]); first | done | rfl | (simp only [List.length_drop, List.length_take]; rfl)) ?_; (with_reducible refine (spec_stWorst.calls k1 a0 _ _ (rd_L3 t216 x13_1) t220 _ ?side1 ?side2 A10.out).mono ?_); (case side1 => repeat (first | exact (by repeat (first | (with_reducible exact HR219_0.out) | (with_reducible refine Kd.C_alloc ?_ _) | (with_reducible refine Kd.C_drewN ?_ _) | (with_reducible refine Kd.C_drew ?_) | exact HR219_0.out)) | (with_reducible refine Kd.C_alloc ?_ _) | (with_reducible refine Kd.C_drewN ?_ _) | (with_reducible refine Kd.C_drew ?_))); (case side2 => exact HC219_0.out); rintro e w15 ⟨rfl, hb⟩; refine ⟨_, rfl, ?_⟩; have n0_ := Aside0.mk (Kd.N_below (by (with_reducible repeat (first | apply Kd.N_alloc | apply Kd.N_drewN | apply Kd.N_drew)); exact HO_11.out) hb); have n1_ := Aside0.mk (Kd.V_below (by (with_reducible repeat (first | apply Kd.V_alloc | apply Kd.V_drewN | apply Kd.V_drew)); exact HL219_0.out) hb); have n2_ := Aside0.mk (Kd.C_below (by repeat (first | (with_reducible exact HR219_0.out) | (with_reducible refine Kd.C_alloc ?_ _) | (with_reducible refine Kd.C_drewN ?_ _) | (with_reducible refine Kd.C_drew ?_) | exact HR219_0.out)) hb); have n3_ := Aside0.mk (below_step (by repeat (first | (with_reducible first | exact HB.out | apply below_alloc | apply pw_below_drewN | apply below_drew1) | exact HB.out)) hb); clear HO_11; clear HL219_0; clear HR219_0; clear HB; have HO_11 := n0_; have HL219_0 := n1_; have HR219_0 := n2_; have HB := n3_; clear n0_ n1_ n2_ n3_; (try clear hb); (try clear hb2); (try clear hk); (try clear hi)) | ((with_reducible refine gate_callee (f := 48) rfl ?_); refine goesL_ (some 21) rfl rfl Try.func48 (by kernel_rfl) rfl #[.int .i64 2, .int .i64 a0] rfl (by (try simp only [List.map_toArray, List.map_cons, List.map_nil]); first | done | rfl | (simp only [List.length_drop, List.length_take]; rfl)) ?_; (with_reducible refine (spec_flFew.calls k1 2 a0 t221 _ A11.out).mono ?_); rintro e w16 ⟨rfl, hb⟩; refine ⟨_, rfl, ?_⟩; have n0_ := Aside0.mk (Kd.N_below (by (with_reducible repeat (first | apply Kd.N_alloc | apply Kd.N_drewN | apply Kd.N_drew)); exact HO_11.out) hb); have n1_ := Aside0.mk (Kd.V_below (by (with_reducible repeat (first | apply Kd.V_alloc | apply Kd.V_drewN | apply Kd.V_drew)); exact HL219_0.out) hb); have n2_ := Aside0.mk (Kd.C_below (by repeat (first | (with_reducible exact HR219_0.out) | (with_reducible refine Kd.C_alloc ?_ _) | (with_reducible refine Kd.C_drewN ?_ _) | (with_reducible refine Kd.C_drew ?_) | exact HR219_0.out)) hb); have n3_ := Aside0.mk (below_step (by repeat (first | (with_reducible first | exact HB.out | apply below_alloc | apply pw_below_drewN | apply below_drew1) | exact HB.out)) hb); clear HO_11; clear HL219_0; clear HR219_0; clear HB; have HO_11 := n0_; have HL219_0 := n1_; have HR219_0 := n2_; have HB := n3_; clear n0_ n1_ n2_ n3_; (try clear hb); (try clear hb2); (try clear hk); (try clear hi)))
                go_roundg k1
                case measure => have := HK1.out; omega
                case rel => exact ⟨(x4_1), (wrap64 (x13_1 + 1)), (by first | rfl | (simp; done) | (simp [*]; done)), (by first | rfl | (simp; done) | (simp [*]; done)), H', ⟨by have := HK1.out; omega⟩, ⟨by (with_reducible repeat (first | apply Kd.N_alloc | apply Kd.N_drewN | apply Kd.N_drew)); exact HO_11.out⟩, ⟨by repeat (first | (with_reducible first | exact HB.out | apply below_alloc | apply pw_below_drewN | apply below_drew1) | exact HB.out)⟩⟩
            · rw [if_neg c9] at H
              exact absurd H (by simp)
          · rw [if_neg c8] at H
            exact absurd H (by simp)
        · rw [if_neg c7] at H
          have c7b0 : decide (x13_1 < (t216.length : Int)) = false := decide_eq_false c7
          clear c7
          simp only [Option.some.injEq, Prod.mk.injEq] at H
          obtain ⟨rfl, rfl⟩ := H
          go_wp2
          go_ret2
          exact ⟨by first | rfl | (simp [errW_none, errW_some] <;> rfl) | (simp [*, errW_none, errW_some] <;> rfl), by repeat (first | (with_reducible first | exact HB.out | apply below_alloc | apply pw_below_drewN | apply below_drew1) | exact HB.out)⟩
  · replace c3 := Bool.eq_false_iff.mpr c3
    subst c3
    have H1 : (some (0, false)) = some (r1, r2) := by rw [if_neg (show ¬ (false = true) by decide)] at H; exact H
    clear H
    have H := H1
    clear H1
    simp only [Option.some.injEq, Prod.mk.injEq] at H
    obtain ⟨rfl, rfl⟩ := H
    go_enter Try.func24, Try.ntmps24
    go_wp2_with (first | ((with_reducible refine gate_callee (f := 27) rfl ?_); refine goesL_ (some 8) rfl rfl Try.func27 (by kernel_rfl) rfl #[.int .i64 a0, .int .i64 0, .int .i64 14] rfl (by (try simp only [List.map_toArray, List.map_cons, List.map_nil]); first | done | rfl | (simp only [List.length_drop, List.length_take]; rfl)) ?_; (with_reducible refine (spec_l1In.calls0 a0 0 14 false _ A2.out).mono ?_); rintro e w' ⟨rfl, rfl⟩; refine ⟨_, rfl, ?_⟩))
    go_ret2
    exact ⟨by first | rfl | (simp [errW_none, errW_some] <;> rfl) | (simp [*, errW_none, errW_some] <;> rfl), by repeat (first | (with_reducible first | exact HB.out | apply below_alloc | apply pw_below_drewN | apply below_drew1) | exact HB.out)⟩

/-! ### impl_isListed: function 49 -/
def impl_isListed.f (a0 : Int) : Option (Bool) := (impl_within.f a0 0 14).bind fun t222 => (some t222)
set_option maxHeartbeats 8000000 in
set_option maxRecDepth 100000 in
theorem impl_isListed.calls (a0 : Int) (r : Bool) (w : World) (h : impl_isListed.f a0 = some r) :
    Calls Try.prog 49 #[.int .i64 a0] w fun e w' => e = .returned (.bool r) ∧ Drawn0 w w' := by
  have H : ((impl_within.f a0 0 14).bind fun t222 => (some t222)) = some r := h
  clear h
  replace H := Option.bind_eq_some_iff.mp H
  obtain ⟨t222, A20, H⟩ := H
  replace H : (some t222) = some r := H
  have A2 := Aside0.mk A20
  clear A20
  obtain rfl := Option.some.inj H
  go_enter Try.func49, Try.ntmps49
  go_wp2_with (first | ((with_reducible refine gate_callee (f := 60) rfl ?_); refine goesL_ (some 4) rfl rfl Try.func60 (by kernel_rfl) rfl #[.int .i64 a0, .int .i64 0, .int .i64 14] rfl (by (try simp only [List.map_toArray, List.map_cons, List.map_nil]); first | done | rfl | (simp only [List.length_drop, List.length_take]; rfl)) ?_; (with_reducible refine (impl_within.calls0 a0 0 14 t222 _ A2.out).mono ?_); rintro e w' ⟨rfl, rfl⟩; refine ⟨_, rfl, ?_⟩))
  go_ret
  exact ⟨by first | rfl | (simp; done) | (simp [*]; done), by repeat (first | exact Drawn0.refl _ | apply Drawn0.step)⟩

set_option maxHeartbeats 8000000 in
set_option maxRecDepth 100000 in
theorem impl_isListed.calls0 (a0 : Int) (r : Bool) (w : World) (h : impl_isListed.f a0 = some r) :
    Calls Try.prog 49 #[.int .i64 a0] w fun e w' => e = .returned (.bool r) ∧ w = w' := by
  have H : ((impl_within.f a0 0 14).bind fun t222 => (some t222)) = some r := h
  clear h
  replace H := Option.bind_eq_some_iff.mp H
  obtain ⟨t222, A20, H⟩ := H
  replace H : (some t222) = some r := H
  have A2 := Aside0.mk A20
  clear A20
  obtain rfl := Option.some.inj H
  go_enter Try.func49, Try.ntmps49
  go_wp2_with (first | ((with_reducible refine gate_callee (f := 60) rfl ?_); refine goesL_ (some 4) rfl rfl Try.func60 (by kernel_rfl) rfl #[.int .i64 a0, .int .i64 0, .int .i64 14] rfl (by (try simp only [List.map_toArray, List.map_cons, List.map_nil]); first | done | rfl | (simp only [List.length_drop, List.length_take]; rfl)) ?_; (with_reducible refine (impl_within.calls0 a0 0 14 t222 _ A2.out).mono ?_); rintro e w' ⟨rfl, rfl⟩; refine ⟨_, rfl, ?_⟩))
  go_ret
  exact ⟨by first | rfl | (simp; done) | (simp [*]; done), by first | rfl | simp⟩

/-! ### impl_newReaches: function 63, a contract of our own -/
-- IMPORT Derived.BigRegion
theorem zeroReaches : Try.zeroCells78 = arrV 11011 (fun _ => 0) := by
  apply Array.ext'
  rw [chkZ_is Try.zeroCells78.toList 11011 (by kernel_rfl)]
  simp [arrV]
set_option maxHeartbeats 4000000 in
set_option maxRecDepth 100000 in
theorem newReaches_calls (w : World) : Calls Try.prog 63 #[] w fun e w' => ∃ g, e = .returned (.pointer (some ⟨g, 0, none⟩)) ∧ IsReaches w' g ∧ w.heap.size ≤ g ∧ Below w.heap.size w w' := by
  have HA0 := Aside0.mk (show ArrI (w.alloc (.cells Try.zeroCells78 78 (0, 0))) w.heap.size 78 11011 (reachArr (1 * 11 + 1)) from
    ArrI.congr (f := fun _ => 0) ⟨by rw [zeroReaches]; exact blk_new w _⟩ (fun i _ => (reachArr_start i).symm))
  have HB0 := Aside0.mk (below_alloc (Below.refl w.heap.size w) (.cells Try.zeroCells78 78 (0, 0)))
  go_enter Try.func63, Try.ntmps63
  go_wp2
  generalize hg : w.heap.size = g at HA0 ⊢
  have HG := Aside0.mk hg
  clear hg
  go_loopg [2] 1001 (fun gg v2 wr => ∃ t : Nat, 1 ≤ t ∧ t ≤ 1001 ∧ 1001 - t ≤ gg ∧ v2 = .int .i64 t ∧ Aside0 (ArrI wr g 78 11011 (reachArr (t * 11 + 1))) ∧ Aside0 (Below w.heap.size w wr))
  case atStart => exact ⟨1, by omega, by omega, by omega, rfl, HA0, HB0⟩
  case round =>
    clear HA0 HB0
    obtain ⟨t, ht1, ht2, hgg, rfl, HA, HB⟩ := hrel
    by_cases hlt : t ≤ 1000
    · have hltz : (t : Int) ≤ 1000 := by omega
      go_wp2
      go_loopg [3] 11 (fun gg v3 wr => ∃ e : Nat, 1 ≤ e ∧ e ≤ 11 ∧ 11 - e ≤ gg ∧ v3 = .int .i64 e ∧ Aside0 (ArrI wr g 78 11011 (reachArr (t * 11 + e))) ∧ Aside0 (Below w.heap.size w wr))
      case atStart => exact ⟨1, by omega, by omega, by omega, rfl, HA, HB⟩
      case round =>
        clear HA HB
        obtain ⟨e, he1, he2, hg2, rfl, HA, HB⟩ := hrel
        by_cases hle : e ≤ 10
        · have hlez : (e : Int) ≤ 10 := by omega
          obtain ⟨s, rfl⟩ : ∃ s, t = s + 1 := ⟨t - 1, by omega⟩
          obtain ⟨q, rfl⟩ : ∃ q, e = q + 1 := ⟨e - 1, by omega⟩
          have hv1 : reachArr ((s + 1) * 11 + (q + 1)) (s * 11 + q) = rch s q := by unfold reachArr; rw [if_pos (by omega), show (s * 11 + q) / 11 = s by omega, show (s * 11 + q) % 11 = q by omega]
          have hv2 : reachArr ((s + 1) * 11 + (q + 1)) (s * 11 + (q + 1)) = rch s (q + 1) := by unfold reachArr; rw [if_pos (by omega), show (s * 11 + (q + 1)) / 11 = s by omega, show (s * 11 + (q + 1)) % 11 = q + 1 by omega]
          have hx1 := HA.out.cell (s * 11 + q) (by omega)
          have hx2 := HA.out.cell (s * 11 + (q + 1)) (by omega)
          have hx3 := HA.out.cell ((s + 1) * 11 + (q + 1)) (by omega)
          have hf3 := HA.out.frozen ((s + 1) * 11 + (q + 1))
          rw [hv1] at hx1
          rw [hv2] at hx2
          have hr1 := rch_range s q
          have hr2 := rch_range s (q + 1)
          clear hv1 hv2
          generalize reachArr ((s + 1) * 11 + (q + 1)) ((s + 1) * 11 + (q + 1)) = z at hx3
          have hset := Aside0.mk ((HA.out.set ((s + 1) * 11 + (q + 1)) (min 1000000001 (rch s q + rch s (q + 1) + 1))).congr (fun i _ => reachArr_set (s + 1) (q + 1) i (by omega) (by omega) (by omega)))
          clear HA
          rcases (by omega : rch s q + rch s (q + 1) + 1 < 1000000001 ∨ 1000000001 ≤ rch s q + rch s (q + 1) + 1) with hm | hm
          case' inl => rw [show min 1000000001 (rch s q + rch s (q + 1) + 1) = rch s q + rch s (q + 1) + 1 by omega] at hset
          case' inr => rw [show min 1000000001 (rch s q + rch s (q + 1) + 1) = 1000000001 by omega] at hset
          all_goals
            go_wp2
            go_region
            go_wp2
            go_roundg (11 - (q + 1 + 1))
            case measure => omega
            case rel => exact ⟨q + 1 + 1, by omega, by omega, by omega, by go_num, ⟨ArrI.below hset.out (below_drew1 (Below.refl _ _))⟩, ⟨below_drew1 (below_set HB.out (by rw [HG.out]; exact Nat.le_refl _))⟩⟩
        · have hlez : ¬ (e : Int) ≤ 10 := by omega
          obtain rfl : e = 11 := by omega
          go_wp2
          go_roundg (1001 - (t + 1))
          case measure => omega
          case rel =>
            exact ⟨t + 1, by omega, by omega, by omega, by go_num, ⟨HA.out.congr (fun i _ => reachArr_row t i)⟩, HB⟩
    · have hltz : ¬ (t : Int) ≤ 1000 := by omega
      obtain rfl : t = 1001 := by omega
      go_wp2
      go_ret
      exact ⟨g, rfl, HA.out.congr (fun i hi => by unfold reachArr; rw [if_pos (by omega), if_pos hi]), by rw [HG.out]; exact Nat.le_refl _, HB.out⟩

/-! ### impl_reaches_fewest: function 64, a contract of our own -/
set_option maxHeartbeats 4000000 in
set_option maxRecDepth 100000 in
theorem fewest_calls (g e : Nat) (n : Int) (w : World) (he0 : 1 ≤ e) (he : e ≤ 10) (hR : IsReaches w g) :
    Calls Try.prog 64 #[.pointer (some ⟨g, 0, none⟩), .int .i64 e, .int .i64 n] w fun e' w' => e' = .returned (.int .i64 (few e n)) ∧ w = w' := by
  have HR := Aside0.mk hR
  clear hR
  have hz0 : (0 : Int) ≤ (e : Int) := by omega
  have hz1 : (e : Int) < 11 := by omega
  go_enter Try.func64, Try.ntmps64
  go_wp2
  go_loopg [7, 8] 1001 (fun gg v7 v8 wr => ∃ lo hi : Nat, lo ≤ few e n ∧ few e n ≤ hi ∧ hi ≤ 1000 ∧ hi - lo ≤ gg ∧ v7 = .int .i64 lo ∧ v8 = .int .i64 hi ∧ w = wr)
  case atStart => exact ⟨0, 1000, Nat.zero_le _, few_le e n, by omega, by omega, rfl, rfl, rfl⟩
  case round =>
    obtain ⟨lo, hi, h1, h2, h3, h4, rfl, rfl, rfl⟩ := hrel
    by_cases hlt : lo < hi
    · have hltz : (lo : Int) < (hi : Int) := by omega
      obtain ⟨m, hm⟩ : ∃ m : Nat, m = (lo + hi) / 2 := ⟨_, rfl⟩
      have hm1 : lo ≤ m := by omega
      have hm2 : m < hi := by omega
      have hmz : ((lo : Int) + (hi : Int)) / 2 = (m : Int) := by omega
      have hx := HR.out.at_ m e (by omega) he
      have hb1 : (m : Int) < 1001 := by omega
      have hfew := few_le_iff e n m (by omega)
      clear hm
      by_cases ht : n ≤ rch m e
      · have hle := hfew.2 ht
        have hdt : decide (n ≤ rch m e) = true := decide_eq_true ht
        clear hfew ht
        go_wp2
        go_roundg (m - lo)
        case measure => omega
        case rel => exact ⟨lo, m, h1, hle, by omega, Nat.le_refl _, rfl, by rw [hmz], rfl⟩
      · have hle : m < few e n := Nat.lt_of_not_le (fun h => ht (hfew.1 h))
        have hdt : decide (n ≤ rch m e) = false := decide_eq_false ht
        clear hfew ht
        go_wp2
        go_roundg (hi - (m + 1))
        case measure => omega
        case rel => exact ⟨m + 1, hi, hle, h2, h3, Nat.le_refl _, by go_num, rfl, rfl⟩
    · have hltz : ¬ (lo : Int) < (hi : Int) := by omega
      have hq : lo = few e n := by omega
      have HQ := Aside0.mk hq
      clear hq
      go_wp2
      go_ret
      exact ⟨by rw [← HQ.out]; rfl, rfl⟩

/-! ### impl_leastWorst: function 50, a contract of our own -/
def impl_leastWorst.f (a0 : Int) : Option Int := if 0 ≤ a0 ∧ a0 ≤ 1000 then some (few 2 a0 : Nat) else none
set_option maxHeartbeats 4000000 in
set_option maxRecDepth 100000 in
theorem impl_leastWorst.calls (a0 : Int) (r : Int) (w : World) (h : impl_leastWorst.f a0 = some r) :
    Calls Try.prog 50 #[.int .i64 a0] w fun e w' => e = .returned (.int .i64 r) ∧ Below w.heap.size w w' := by
  unfold impl_leastWorst.f at h
  by_cases hp : 0 ≤ a0 ∧ a0 ≤ 1000
  · rw [if_pos hp] at h
    obtain rfl := Option.some.inj h
    have HF : Aside0 (∀ (g : Nat) (W : World), IsReaches W g → Calls Try.prog 64 #[.pointer (some ⟨g, 0, none⟩), .int .i64 2, .int .i64 a0] W fun e' w' => e' = .returned (.int .i64 (few 2 a0)) ∧ W = w') := ⟨fun g W hR => fewest_calls g 2 a0 W (by omega) (by omega) hR⟩
    generalize few 2 a0 = q at HF ⊢
    clear h hp
    go_enter Try.func50, Try.ntmps50
    go_wp2_with (first
      | (go_at_call 63; refine (newReaches_calls _).mono ?_; rintro e w' ⟨g, rfl, hR, hg, hb⟩; have HR := Aside0.mk hR; have HB := Aside0.mk hb; clear hR hg hb)
      | (go_at_call 64; refine (HF.out g _ HR.out).mono ?_; rintro e w2 ⟨rfl, rfl⟩))
    go_ret
    exact ⟨rfl, HB.out⟩
  · rw [if_neg hp] at h; cases h

end Go.Proofs.Ytalalaepdjmelaa.PrintF
