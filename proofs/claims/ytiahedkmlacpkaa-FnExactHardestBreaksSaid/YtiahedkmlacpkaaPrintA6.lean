-- written by this session's own driver (wip/gen.py) with the kit's print and contracts of our own
import Derived.Test.YtiahedkmlacpkaaPrintA0
import Derived.Test.YtiahedkmlacpkaaPrintA1
import Derived.Test.YtiahedkmlacpkaaPrintA2
import Derived.Test.YtiahedkmlacpkaaPrintA5
import Derived.BigRegion
namespace Go.Proofs.Ytiahedkmlacpkaa.PrintA
open Go.RowKit Go.Proofs.YtiahedkmlacpkaaLib Go.Proofs.YtiahedkmlacpkaaW.PrintWords Go.Proofs.YtiahedkmlacpkaaW.PrintLast Go.Proofs.YtiahedkmlacpkaaW.PrintMore
attribute [local go_sem] max2_int min2_int max_two min_two max_three min_three max_four min_four   -- for this text's walks alone
set_option linter.unusedVariables false
set_option linter.unusedSimpArgs false

/-! ### spec_HardestBreaks: function 20 -/
def spec_HardestBreaks.l0 : Nat → Int → List Int → List Int → Int → Int → Option (List Int × Bool)
  | 0, _, _, _, _, _ => none
  | k + 1, x6, x7, x16, x17, x18 => if x18 < x17 then (if 0 ≤ x18 then (if x18 < (x16.length : Int) then (if (rd x16 x18) > x6 then (if (rd x16 x18) = (rd x16 x18) then (if ([] : List Int).length < 17592186044416 then (spec_HardestBreaks.l0 k (rd x16 x18) (([] : List Int) ++ [x18]) x16 x17 (wrap64 (x18 + 1))) else (none)) else (spec_HardestBreaks.l0 k (rd x16 x18) ([] : List Int) x16 x17 (wrap64 (x18 + 1)))) else (if (rd x16 x18) = x6 then (if x7.length < 17592186044416 then (spec_HardestBreaks.l0 k x6 (x7 ++ [x18]) x16 x17 (wrap64 (x18 + 1))) else (none)) else (spec_HardestBreaks.l0 k x6 x7 x16 x17 (wrap64 (x18 + 1))))) else (none)) else (none)) else (some (x7, true))
def spec_HardestBreaks.f (k : Nat) (a0 : Int) (a1 : Int) : Option (List Int × Bool) := (spec_flBoth.f a0 a1).bind fun t145 => (if t145 = true then ((spec_flCounts.f k a0 a1).bind fun t146 => (spec_HardestBreaks.l0 k (-1) ([] : List Int) t146 (t146.length : Int) 0)) else (some (([] : List Int), false)))
theorem spec_HardestBreaks.mono_l : ∀ k, (∀ y0 y1 y2 y3 y4, LeO (spec_HardestBreaks.l0 k y0 y1 y2 y3 y4) (spec_HardestBreaks.l0 (k + 1) y0 y1 y2 y3 y4))
  | 0 => fun _ _ _ _ _ r h => by simp [spec_HardestBreaks.l0] at h
  | k + 1 => by
    have ih0 := spec_HardestBreaks.mono_l k
    · intro y0 y1 y2 y3 y4
      unfold spec_HardestBreaks.l0
      repeat' first
      | (with_reducible exact ih0 _ _ _ _ _)
      | (with_reducible exact spec_flCounts.mono _ _ _)
      | (with_reducible exact LeO.refl _)
      | (with_reducible exact LeO.none _)
      | (with_reducible refine LeO.ite ?_ ?_)
      | (with_reducible refine LeO.bind ?_ (fun _ => ?_))
      | exact ih0 _ _ _ _ _
      | exact spec_flCounts.mono _ _ _
      | exact LeO.none _
      | refine LeO.ite ?_ ?_
      | refine LeO.bind ?_ (fun _ => ?_)
theorem spec_HardestBreaks.mono : ∀ a0 a1 k, LeO (spec_HardestBreaks.f k a0 a1) (spec_HardestBreaks.f (k + 1) a0 a1) := by
  intro a0 a1 k
  have ih0 := spec_HardestBreaks.mono_l k
  unfold spec_HardestBreaks.f
  repeat' first
      | (with_reducible exact ih0 _ _ _ _ _)
      | (with_reducible exact spec_flCounts.mono _ _ _)
      | (with_reducible exact LeO.refl _)
      | (with_reducible exact LeO.none _)
      | (with_reducible refine LeO.ite ?_ ?_)
      | (with_reducible refine LeO.bind ?_ (fun _ => ?_))
      | exact ih0 _ _ _ _ _
      | exact spec_flCounts.mono _ _ _
      | exact LeO.none _
      | refine LeO.ite ?_ ?_
      | refine LeO.bind ?_ (fun _ => ?_)
set_option maxHeartbeats 8000000 in
set_option maxRecDepth 100000 in
theorem spec_HardestBreaks.calls (k : Nat) (a0 : Int) (a1 : Int) (r1 : List Int) (r2 : Bool) (w : World) (h : spec_HardestBreaks.f k a0 a1 = some (r1, r2)) :
    Calls Try.prog 20 #[.int .i64 a0, .int .i64 a1] w fun e w' => ∃ v0_ : Value, e = .returned (.tuple #[v0_, .bool r2]) ∧ Kd.R (Kd.int .i64) 3 w' w.heap.size (fun _ => True) v0_ r1 ∧ Below w.heap.size w w' := by
  have HB := Aside0.mk (Below.refl w.heap.size w)
  have H : ((spec_flBoth.f a0 a1).bind fun t145 => (if t145 = true then ((spec_flCounts.f k a0 a1).bind fun t146 => (spec_HardestBreaks.l0 k (-1) ([] : List Int) t146 (t146.length : Int) 0)) else (some (([] : List Int), false)))) = some (r1, r2) := h
  clear h
  replace H := Option.bind_eq_some_iff.mp H
  obtain ⟨t145, A30, H⟩ := H
  replace H : (if t145 = true then ((spec_flCounts.f k a0 a1).bind fun t146 => (spec_HardestBreaks.l0 k (-1) ([] : List Int) t146 (t146.length : Int) 0)) else (some (([] : List Int), false))) = some (r1, r2) := H
  have A3 := Aside0.mk A30
  clear A30
  by_cases c4 : t145 = true
  · subst c4
    have H1 : ((spec_flCounts.f k a0 a1).bind fun t146 => (spec_HardestBreaks.l0 k (-1) ([] : List Int) t146 (t146.length : Int) 0)) = some (r1, r2) := by rw [if_pos rfl] at H; exact H
    clear H
    have H := H1
    clear H1
    replace H := Option.bind_eq_some_iff.mp H
    obtain ⟨t146, A50, H⟩ := H
    replace H : (spec_HardestBreaks.l0 k (-1) ([] : List Int) t146 (t146.length : Int) 0) = some (r1, r2) := H
    have A5 := Aside0.mk A50
    clear A50
    have H' := Aside0.mk H
    clear H
    go_enter Try.func20, Try.ntmps20
    go_wp2_with (first | ((with_reducible refine gate_callee (f := 45) rfl ?_); refine goesL_ (some 12) rfl rfl Try.func45 (by kernel_rfl) rfl #[.int .i64 a0, .int .i64 a1] rfl (by (try simp only [List.map_toArray, List.map_cons, List.map_nil]); first | done | rfl | (simp only [List.length_drop, List.length_take]; rfl)) ?_; (with_reducible refine (spec_flBoth.calls0 a0 a1 true _ A3.out).mono ?_); rintro e w' ⟨rfl, rfl⟩; refine ⟨_, rfl, ?_⟩) | ((with_reducible refine gate_callee (f := 46) rfl ?_); refine goesL_ (some 16) rfl rfl Try.func46 (by kernel_rfl) rfl #[.int .i64 a0, .int .i64 a1] rfl (by (try simp only [List.map_toArray, List.map_cons, List.map_nil]); first | done | rfl | (simp only [List.length_drop, List.length_take]; rfl)) ?_; (with_reducible refine (spec_flCounts.calls k a0 a1 t146 _ A5.out).mono ?_); rintro e w6 ⟨v147, rfl, ho0, hb⟩; refine ⟨_, rfl, ?_⟩; have n0_ := Aside0.mk (Kd.R_lower ho0 (below_size (by repeat (first | (with_reducible first | exact HB.out | apply below_alloc | apply pw_below_drewN | apply below_drew1) | exact HB.out)))); have n1_ := Aside0.mk (below_step (by repeat (first | (with_reducible first | exact HB.out | apply below_alloc | apply pw_below_drewN | apply below_drew1) | exact HB.out)) hb); clear HB; have HO148 := n0_; have HB := n1_; clear n0_ n1_; (try clear hb); (try clear hb2); (try clear hk); (try clear hi); (try clear ho0); obtain ⟨Ao7, co7, eo7⟩ := Kd.R_slice HO148.out; subst eo7))
    go_loopg [6, 7, 18] k (fun kq v6 v7 v18 w' => ∃ (x6_1 : Int) (x7_1 : List Int) (x18_1 : Int), v6 = .int .i64 x6_1 ∧ v18 = .int .i64 x18_1 ∧ Aside0 (spec_HardestBreaks.l0 kq x6_1 x7_1 t146 (t146.length : Int) x18_1 = some (r1, r2)) ∧ Aside0 (kq ≤ k) ∧ Aside0 (Kd.R (Kd.int .i64) 3 w' w.heap.size (fun k_ => some k_ ≠ ((.slice Ao7 t146.length co7) : Value).ownBlock) v7 x7_1) ∧ Aside0 (Kd.R (Kd.int .i64) 3 w' w.heap.size (fun k_ => some k_ ≠ (v7 : Value).ownBlock) (.slice Ao7 t146.length co7) t146) ∧ Aside0 (Below w.heap.size w w'))
    case atStart => exact ⟨((-1)), (([] : List Int)), (0), (by first | rfl | (simp; done) | (simp [*]; done)), (by first | rfl | (simp; done) | (simp [*]; done)), H', ⟨Nat.le_refl _⟩, ⟨by first | exact Kd.R_nil _ _ _ _ _ | exact Kd.N_nil _ _ _ _ _ | exact Kd.V_nil _ _ _ _ _ | exact Kd.Q_nil _ _ _ _ _ | exact Kd.S_nil _ _ _ _ _⟩, ⟨by (with_reducible repeat (first | apply Kd.R_alloc | apply Kd.R_drewN | apply Kd.R_drew)); exact Kd.R_mono HO148.out (fun _ hk => (by simp [Value.ownBlock]))⟩, ⟨by repeat (first | (with_reducible first | exact HB.out | apply below_alloc | apply pw_below_drewN | apply below_drew1) | exact HB.out)⟩⟩
    case round =>
      clear H'
      try clear c2
      try clear p2
      try clear c4
      obtain ⟨x6_1, x7_1, x18_1, rfl, rfl, HA, HK1, HO_7, HO_16, HB⟩ := hrel
      cases gk with
      | zero => exact absurd HA.out (by simp [spec_HardestBreaks.l0])
      | succ k1 =>
        have H := HA.out
        clear HA
        simp only [spec_HardestBreaks.l0] at H
        by_cases c8 : x18_1 < (t146.length : Int)
        · rw [if_pos c8] at H
          have c8b0 : decide (x18_1 < (t146.length : Int)) = true := decide_eq_true c8
          clear c8
          by_cases c9 : 0 ≤ x18_1
          · rw [if_pos c9] at H
            have c9b0 : decide (0 ≤ x18_1) = true := decide_eq_true c9
            clear c9
            by_cases c10 : x18_1 < (t146.length : Int)
            · rw [if_pos c10] at H
              have c10b0 : decide (x18_1 < (t146.length : Int)) = true := decide_eq_true c10
              clear c10
              by_cases c11 : (rd t146 x18_1) > x6_1
              · rw [if_pos c11] at H
                have c11b0 : decide (x6_1 < (rd t146 x18_1)) = true := decide_eq_true c11
                clear c11
                by_cases c12 : (rd t146 x18_1) = (rd t146 x18_1)
                · first | rw [if_pos c12] at H | rw [if_pos trivial] at H
                  have c12b0 : ((rd t146 x18_1) == (rd t146 x18_1)) = true := beq_iff_eq.mpr c12
                  have c12b1 : ((rd t146 x18_1) != (rd t146 x18_1)) = false := bne_eq_false_iff_eq.mpr c12
                  clear c12
                  by_cases c13 : ([] : List Int).length < 17592186044416
                  · rw [if_pos c13] at H
                    have LMc13 := Aside0.mk c13
                    clear c13
                    obtain ⟨y150, hy150⟩ : ∃ y_ : List Int, y_ = (([] : List Int) ++ [x18_1]) := ⟨_, rfl⟩
                    replace H : (spec_HardestBreaks.l0 k1 (rd t146 x18_1) y150 t146 (t146.length : Int) (wrap64 (x18_1 + 1))) = some (r1, r2) := by first | (rw [hy150]; with_reducible exact H) | (have H2_ := (Option.bind_some _ _).symm.trans H; rw [hy150]; with_reducible exact H2_) | (have H2_ := (Option.bind_some _ _).symm.trans H; with_reducible exact H2_) | with_reducible exact H | (rw [hy150]; exact H) | exact H
                    have Ny150 := Aside0.mk hy150
                    clear hy150
                    have H' := Aside0.mk H
                    clear H
                    have p149 : 0 ≤ (x18_1 : Int) := of_decide_eq_true (by first | (with_reducible assumption) | assumption)
                    have q149 : x18_1 < (t146.length : Int) := of_decide_eq_true (by first | (with_reducible assumption) | assumption)
                    obtain ⟨ad149, e149, hx149_0⟩ := Kd.at_int (Kd.R_reads' HO_16.out).2.2 x18_1 p149 q149
                    cases e149
                    replace p149 := eq_true p149
                    replace q149 := eq_true q149
                    go_wp2_with (first | ((with_reducible refine gate_builtin (b := .append) (xs := #[.tmp 30, .tmp 32]) rfl ?_); at_builtin; refine Kd.R_append (Kd.int .i64) (w0 := w) w.heap.size rfl (.tmp 30) (.tmp 32) 30 3 (.int .i64 0) 8 rfl Try.underlying30 info3 rfl (by decide) (by omega) (.slice none 0 0) ([] : List Int) x18_1 [.int .i64 x18_1] (fun k_ => some k_ ≠ (u7 : Value).ownBlock ∧ some k_ ≠ (.slice (some ad149) t146.length co7 : Value).ownBlock) (fun _ => False) rfl rfl ?aP (fun _ hk => hk.elim) ?aF ?aO ?aB ?aS ?aL ?_; (case aP => exact rfl); (case aB => exact (by repeat (first | (with_reducible first | exact HB.out | apply below_alloc | apply pw_below_drewN | apply below_drew1) | exact HB.out))); (case aF => exact (fun k_ hk => ⟨Kd.fresh' (Kd.R_lt (by (with_reducible repeat (first | apply Kd.R_alloc | apply Kd.R_drewN | apply Kd.R_drew)); exact HO_7.out)) k_ hk, Kd.fresh' (Kd.R_lt (by (with_reducible repeat (first | apply Kd.R_alloc | apply Kd.R_drewN | apply Kd.R_drew)); exact HO_16.out)) k_ hk⟩)); (case aO => exact ((Kd.R_nil _ _ _ _ (fun k_ => some k_ ≠ (u7 : Value).ownBlock ∧ some k_ ≠ (.slice (some ad149) t146.length co7 : Value).ownBlock)))); (case aS => exact (below_size (by repeat (first | (with_reducible first | exact HB.out | apply below_alloc | apply pw_below_drewN | apply below_drew1) | exact HB.out)))); (case aL => have := LMc13.out; omega); intro v151 w14 ho hb hg hat; rw [← Ny150.out] at ho; have n0_ := Aside0.mk (Kd.R_after (Kd.R_apart_nil (by (with_reducible repeat (first | apply Kd.R_alloc | apply Kd.R_drewN | apply Kd.R_drew)); exact HO_7.out)) hg hat); have n1_ := Aside0.mk (Kd.R_after (Kd.R_apart_nil (by (with_reducible repeat (first | apply Kd.R_alloc | apply Kd.R_drewN | apply Kd.R_drew)); exact HO_16.out)) hg hat); have n2_ := Aside0.mk (hb); have n3_ := Aside0.mk (ho); clear HO_7; clear HO_16; clear HB; have HO_7 := n0_; have HO_16 := n1_; have HB := n2_; have HO152 := n3_; clear n0_ n1_ n2_ n3_; clear ho hb hg hat))
                    go_roundg k1
                    case measure => have := HK1.out; omega
                    case rel => exact ⟨(rd t146 x18_1), (y150), (wrap64 (x18_1 + 1)), (by first | rfl | (simp; done) | (simp [*]; done)), (by first | rfl | (simp; done) | (simp [*]; done)), H', ⟨by have := HK1.out; omega⟩, ⟨by (with_reducible repeat (first | apply Kd.R_alloc | apply Kd.R_drewN | apply Kd.R_drew)); exact Kd.R_mono HO152.out (fun _ hk => hk.2)⟩, ⟨by (with_reducible repeat (first | apply Kd.R_alloc | apply Kd.R_drewN | apply Kd.R_drew)); exact Kd.R_mono HO_16.out (fun _ hk => hk.2)⟩, ⟨by repeat (first | (with_reducible first | exact HB.out | apply below_alloc | apply pw_below_drewN | apply below_drew1) | exact HB.out)⟩⟩
                  · rw [if_neg c13] at H
                    exact absurd H (by simp)
                · exact absurd rfl c12
              · rw [if_neg c11] at H
                have c11b0 : decide (x6_1 < (rd t146 x18_1)) = false := decide_eq_false c11
                clear c11
                by_cases c15 : (rd t146 x18_1) = x6_1
                · rw [if_pos c15] at H
                  have c15b0 : ((rd t146 x18_1) == x6_1) = true := beq_iff_eq.mpr c15
                  have c15b1 : ((rd t146 x18_1) != x6_1) = false := bne_eq_false_iff_eq.mpr c15
                  clear c15
                  by_cases c16 : x7_1.length < 17592186044416
                  · rw [if_pos c16] at H
                    have LMc16 := Aside0.mk c16
                    clear c16
                    obtain ⟨y153, hy153⟩ : ∃ y_ : List Int, y_ = (x7_1 ++ [x18_1]) := ⟨_, rfl⟩
                    replace H : (spec_HardestBreaks.l0 k1 x6_1 y153 t146 (t146.length : Int) (wrap64 (x18_1 + 1))) = some (r1, r2) := by first | (rw [hy153]; with_reducible exact H) | (have H2_ := (Option.bind_some _ _).symm.trans H; rw [hy153]; with_reducible exact H2_) | (have H2_ := (Option.bind_some _ _).symm.trans H; with_reducible exact H2_) | with_reducible exact H | (rw [hy153]; exact H) | exact H
                    have Ny153 := Aside0.mk hy153
                    clear hy153
                    have H' := Aside0.mk H
                    clear H
                    have p149 : 0 ≤ (x18_1 : Int) := of_decide_eq_true (by first | (with_reducible assumption) | assumption)
                    have q149 : x18_1 < (t146.length : Int) := of_decide_eq_true (by first | (with_reducible assumption) | assumption)
                    obtain ⟨ad149, e149, hx149_0⟩ := Kd.at_int (Kd.R_reads' HO_16.out).2.2 x18_1 p149 q149
                    cases e149
                    replace p149 := eq_true p149
                    replace q149 := eq_true q149
                    go_wp2_with (first | ((with_reducible refine gate_builtin (b := .append) (xs := #[.tmp 30, .tmp 32]) rfl ?_); at_builtin; refine Kd.R_append (Kd.int .i64) (w0 := w) w.heap.size rfl (.tmp 30) (.tmp 32) 30 3 (.int .i64 0) 8 rfl Try.underlying30 info3 rfl (by decide) (by omega) u7 x7_1 x18_1 [.int .i64 x18_1] (fun k_ => some k_ ≠ (.slice (some ad149) t146.length co7 : Value).ownBlock) (fun _ => False) rfl rfl ?aP (fun _ hk => hk.elim) ?aF ?aO ?aB ?aS ?aL ?_; (case aP => exact rfl); (case aB => exact (by repeat (first | (with_reducible first | exact HB.out | apply below_alloc | apply pw_below_drewN | apply below_drew1) | exact HB.out))); (case aF => exact (fun k_ hk => Kd.fresh' (Kd.R_lt (by (with_reducible repeat (first | apply Kd.R_alloc | apply Kd.R_drewN | apply Kd.R_drew)); exact HO_16.out)) k_ hk)); (case aO => exact (by (with_reducible repeat (first | apply Kd.R_alloc | apply Kd.R_drewN | apply Kd.R_drew)); exact HO_7.out)); (case aS => exact (below_size (by repeat (first | (with_reducible first | exact HB.out | apply below_alloc | apply pw_below_drewN | apply below_drew1) | exact HB.out)))); (case aL => have := LMc16.out; omega); intro v154 w17 ho hb hg hat; rw [← Ny153.out] at ho; have n0_ := Aside0.mk (Kd.R_after (ok := (fun _ => True)) (by (with_reducible repeat (first | apply Kd.R_alloc | apply Kd.R_drewN | apply Kd.R_drew)); exact Kd.R_mono HO_16.out (fun _ hk => ⟨trivial, hk⟩)) hg hat); have n1_ := Aside0.mk (hb); have n2_ := Aside0.mk (ho); clear HO_16; clear HB; clear HO_7; have HO_16 := n0_; have HB := n1_; have HO155 := n2_; clear n0_ n1_ n2_; clear ho hb hg hat))
                    go_roundg k1
                    case measure => have := HK1.out; omega
                    case rel => exact ⟨(x6_1), (y153), (wrap64 (x18_1 + 1)), (by first | rfl | (simp; done) | (simp [*]; done)), (by first | rfl | (simp; done) | (simp [*]; done)), H', ⟨by have := HK1.out; omega⟩, ⟨by (with_reducible repeat (first | apply Kd.R_alloc | apply Kd.R_drewN | apply Kd.R_drew)); exact HO155.out⟩, ⟨by (with_reducible repeat (first | apply Kd.R_alloc | apply Kd.R_drewN | apply Kd.R_drew)); exact Kd.R_mono HO_16.out (fun _ hk => hk.2)⟩, ⟨by repeat (first | (with_reducible first | exact HB.out | apply below_alloc | apply pw_below_drewN | apply below_drew1) | exact HB.out)⟩⟩
                  · rw [if_neg c16] at H
                    exact absurd H (by simp)
                · rw [if_neg c15] at H
                  have c15b0 : ((rd t146 x18_1) == x6_1) = false := beq_eq_false_iff_ne.mpr c15
                  have c15b1 : ((rd t146 x18_1) != x6_1) = true := bne_iff_ne.mpr c15
                  have H' := Aside0.mk H
                  clear H
                  have p149 : 0 ≤ (x18_1 : Int) := of_decide_eq_true (by first | (with_reducible assumption) | assumption)
                  have q149 : x18_1 < (t146.length : Int) := of_decide_eq_true (by first | (with_reducible assumption) | assumption)
                  obtain ⟨ad149, e149, hx149_0⟩ := Kd.at_int (Kd.R_reads' HO_16.out).2.2 x18_1 p149 q149
                  cases e149
                  replace p149 := eq_true p149
                  replace q149 := eq_true q149
                  go_wp2
                  go_roundg k1
                  case measure => have := HK1.out; omega
                  case rel => exact ⟨(x6_1), (x7_1), (wrap64 (x18_1 + 1)), (by first | rfl | (simp; done) | (simp [*]; done)), (by first | rfl | (simp; done) | (simp [*]; done)), H', ⟨by have := HK1.out; omega⟩, ⟨by (with_reducible repeat (first | apply Kd.R_alloc | apply Kd.R_drewN | apply Kd.R_drew)); exact HO_7.out⟩, ⟨by (with_reducible repeat (first | apply Kd.R_alloc | apply Kd.R_drewN | apply Kd.R_drew)); exact HO_16.out⟩, ⟨by repeat (first | (with_reducible first | exact HB.out | apply below_alloc | apply pw_below_drewN | apply below_drew1) | exact HB.out)⟩⟩
            · rw [if_neg c10] at H
              exact absurd H (by simp)
          · rw [if_neg c9] at H
            exact absurd H (by simp)
        · rw [if_neg c8] at H
          have c8b0 : decide (x18_1 < (t146.length : Int)) = false := decide_eq_false c8
          clear c8
          simp only [Option.some.injEq, Prod.mk.injEq] at H
          obtain ⟨rfl, rfl⟩ := H
          go_wp2
          go_ret2
          exact ⟨_, by first | rfl | (simp [errW_none, errW_some] <;> rfl) | (simp [*, errW_none, errW_some] <;> rfl), by (with_reducible repeat (first | apply Kd.R_alloc | apply Kd.R_drewN | apply Kd.R_drew)); exact Kd.R_mono HO_7.out (fun _ hk => trivial), by repeat (first | (with_reducible first | exact HB.out | apply below_alloc | apply pw_below_drewN | apply below_drew1) | exact HB.out)⟩
  · replace c4 := Bool.eq_false_iff.mpr c4
    subst c4
    have H1 : (some (([] : List Int), false)) = some (r1, r2) := by rw [if_neg (show ¬ (false = true) by decide)] at H; exact H
    clear H
    have H := H1
    clear H1
    simp only [Option.some.injEq, Prod.mk.injEq] at H
    obtain ⟨rfl, rfl⟩ := H
    go_enter Try.func20, Try.ntmps20
    go_wp2_with (first | ((with_reducible refine gate_callee (f := 45) rfl ?_); refine goesL_ (some 12) rfl rfl Try.func45 (by kernel_rfl) rfl #[.int .i64 a0, .int .i64 a1] rfl (by (try simp only [List.map_toArray, List.map_cons, List.map_nil]); first | done | rfl | (simp only [List.length_drop, List.length_take]; rfl)) ?_; (with_reducible refine (spec_flBoth.calls0 a0 a1 false _ A3.out).mono ?_); rintro e w' ⟨rfl, rfl⟩; refine ⟨_, rfl, ?_⟩))
    go_ret2
    exact ⟨_, by first | rfl | (simp [errW_none, errW_some] <;> rfl) | (simp [*, errW_none, errW_some] <;> rfl), by first | exact Kd.R_nil _ _ _ _ _ | exact Kd.N_nil _ _ _ _ _ | exact Kd.V_nil _ _ _ _ _ | exact Kd.Q_nil _ _ _ _ _ | exact Kd.S_nil _ _ _ _ _, by repeat (first | (with_reducible first | exact HB.out | apply below_alloc | apply pw_below_drewN | apply below_drew1) | exact HB.out)⟩

/-! ### impl_newReaches: function 42, a contract of our own -/
-- IMPORT Derived.BigRegion
theorem zeroReaches : Try.zeroCells71 = arrV 11011 (fun _ => 0) := by
  apply Array.ext'
  rw [chkZ_is Try.zeroCells71.toList 11011 (by kernel_rfl)]
  simp [arrV]
set_option maxHeartbeats 4000000 in
set_option maxRecDepth 100000 in
theorem newReaches_calls (w : World) : Calls Try.prog 42 #[] w fun e w' => ∃ g, e = .returned (.pointer (some ⟨g, 0, none⟩)) ∧ IsReaches w' g ∧ w.heap.size ≤ g ∧ Below w.heap.size w w' := by
  have HA0 := Aside0.mk (show ArrI (w.alloc (.cells Try.zeroCells71 71 (0, 0))) w.heap.size 71 11011 (reachArr (1 * 11 + 1)) from
    ArrI.congr (f := fun _ => 0) ⟨by rw [zeroReaches]; exact blk_new w _⟩ (fun i _ => (reachArr_start i).symm))
  have HB0 := Aside0.mk (below_alloc (Below.refl w.heap.size w) (.cells Try.zeroCells71 71 (0, 0)))
  go_enter Try.func42, Try.ntmps42
  go_wp2
  generalize hg : w.heap.size = g at HA0 ⊢
  have HG := Aside0.mk hg
  clear hg
  go_loopg [2] 1001 (fun gg v2 wr => ∃ t : Nat, 1 ≤ t ∧ t ≤ 1001 ∧ 1001 - t ≤ gg ∧ v2 = .int .i64 t ∧ Aside0 (ArrI wr g 71 11011 (reachArr (t * 11 + 1))) ∧ Aside0 (Below w.heap.size w wr))
  case atStart => exact ⟨1, by omega, by omega, by omega, rfl, HA0, HB0⟩
  case round =>
    clear HA0 HB0
    obtain ⟨t, ht1, ht2, hgg, rfl, HA, HB⟩ := hrel
    by_cases hlt : t ≤ 1000
    · have hltz : (t : Int) ≤ 1000 := by omega
      go_wp2
      go_loopg [3] 11 (fun gg v3 wr => ∃ e : Nat, 1 ≤ e ∧ e ≤ 11 ∧ 11 - e ≤ gg ∧ v3 = .int .i64 e ∧ Aside0 (ArrI wr g 71 11011 (reachArr (t * 11 + e))) ∧ Aside0 (Below w.heap.size w wr))
      case atStart => exact ⟨1, by omega, by omega, by omega, rfl, HA, HB⟩
      case round =>
        clear HA HB
        obtain ⟨e, he1, he2, hg2, rfl, HA, HB⟩ := hrel
        by_cases hle : e ≤ 10
        · have hlez : (e : Int) ≤ 10 := by omega
          obtain ⟨s, rfl⟩ : ∃ s, t = s + 1 := ⟨t - 1, by omega⟩
          obtain ⟨q, rfl⟩ : ∃ q, e = q + 1 := ⟨e - 1, by omega⟩
          have hv1 : reachArr ((s + 1) * 11 + (q + 1)) (s * 11 + q) = rch s q := by unfold reachArr; rw [if_pos (by omega), show (s * 11 + q) / 11 = s by omega, show (s * 11 + q) % 11 = q by omega]
          have hv2 : reachArr ((s + 1) * 11 + (q + 1)) (s * 11 + (q + 1)) = rch s (q + 1) := by unfold reachArr; rw [if_pos (by omega), show (s * 11 + (q + 1)) / 11 = s by omega, show (s * 11 + (q + 1)) % 11 = q + 1 by omega]
          have hx1 := HA.out.cell (s * 11 + q) (by omega)
          have hx2 := HA.out.cell (s * 11 + (q + 1)) (by omega)
          have hx3 := HA.out.cell ((s + 1) * 11 + (q + 1)) (by omega)
          have hf3 := HA.out.frozen ((s + 1) * 11 + (q + 1))
          rw [hv1] at hx1
          rw [hv2] at hx2
          have hr1 := rch_range s q
          have hr2 := rch_range s (q + 1)
          clear hv1 hv2
          generalize reachArr ((s + 1) * 11 + (q + 1)) ((s + 1) * 11 + (q + 1)) = z at hx3
          have hset := Aside0.mk ((HA.out.set ((s + 1) * 11 + (q + 1)) (min 1000000001 (rch s q + rch s (q + 1) + 1))).congr (fun i _ => reachArr_set (s + 1) (q + 1) i (by omega) (by omega) (by omega)))
          clear HA
          rcases (by omega : rch s q + rch s (q + 1) + 1 < 1000000001 ∨ 1000000001 ≤ rch s q + rch s (q + 1) + 1) with hm | hm
          case' inl => rw [show min 1000000001 (rch s q + rch s (q + 1) + 1) = rch s q + rch s (q + 1) + 1 by omega] at hset
          case' inr => rw [show min 1000000001 (rch s q + rch s (q + 1) + 1) = 1000000001 by omega] at hset
          all_goals
            go_wp2
            go_region
            go_wp2
            go_roundg (11 - (q + 1 + 1))
            case measure => omega
            case rel => exact ⟨q + 1 + 1, by omega, by omega, by omega, by go_num, ⟨ArrI.below hset.out (below_drew1 (Below.refl _ _))⟩, ⟨below_drew1 (below_set HB.out (by rw [HG.out]; exact Nat.le_refl _))⟩⟩
        · have hlez : ¬ (e : Int) ≤ 10 := by omega
          obtain rfl : e = 11 := by omega
          go_wp2
          go_roundg (1001 - (t + 1))
          case measure => omega
          case rel =>
            exact ⟨t + 1, by omega, by omega, by omega, by go_num, ⟨HA.out.congr (fun i _ => reachArr_row t i)⟩, HB⟩
    · have hltz : ¬ (t : Int) ≤ 1000 := by omega
      obtain rfl : t = 1001 := by omega
      go_wp2
      go_ret
      exact ⟨g, rfl, HA.out.congr (fun i hi => by unfold reachArr; rw [if_pos (by omega), if_pos hi]), by rw [HG.out]; exact Nat.le_refl _, HB.out⟩
set_option maxHeartbeats 4000000 in
set_option maxRecDepth 100000 in
theorem fewest_calls (g e : Nat) (n : Int) (w : World) (he0 : 1 ≤ e) (he : e ≤ 10) (hR : IsReaches w g) :
    Calls Try.prog 73 #[.pointer (some ⟨g, 0, none⟩), .int .i64 e, .int .i64 n] w fun e' w' => e' = .returned (.int .i64 (few e n)) ∧ w = w' := by
  have HR := Aside0.mk hR
  clear hR
  have hz0 : (0 : Int) ≤ (e : Int) := by omega
  have hz1 : (e : Int) < 11 := by omega
  go_enter Try.func73, Try.ntmps73
  go_wp2
  go_loopg [7, 8] 1001 (fun gg v7 v8 wr => ∃ lo hi : Nat, lo ≤ few e n ∧ few e n ≤ hi ∧ hi ≤ 1000 ∧ hi - lo ≤ gg ∧ v7 = .int .i64 lo ∧ v8 = .int .i64 hi ∧ w = wr)
  case atStart => exact ⟨0, 1000, Nat.zero_le _, few_le e n, by omega, by omega, rfl, rfl, rfl⟩
  case round =>
    obtain ⟨lo, hi, h1, h2, h3, h4, rfl, rfl, rfl⟩ := hrel
    by_cases hlt : lo < hi
    · have hltz : (lo : Int) < (hi : Int) := by omega
      obtain ⟨m, hm⟩ : ∃ m : Nat, m = (lo + hi) / 2 := ⟨_, rfl⟩
      have hm1 : lo ≤ m := by omega
      have hm2 : m < hi := by omega
      have hmz : ((lo : Int) + (hi : Int)) / 2 = (m : Int) := by omega
      have hx := HR.out.at_ m e (by omega) he
      have hb1 : (m : Int) < 1001 := by omega
      have hfew := few_le_iff e n m (by omega)
      clear hm
      by_cases ht : n ≤ rch m e
      · have hle := hfew.2 ht
        have hdt : decide (n ≤ rch m e) = true := decide_eq_true ht
        clear hfew ht
        go_wp2
        go_roundg (m - lo)
        case measure => omega
        case rel => exact ⟨lo, m, h1, hle, by omega, Nat.le_refl _, rfl, by rw [hmz], rfl⟩
      · have hle : m < few e n := Nat.lt_of_not_le (fun h => ht (hfew.1 h))
        have hdt : decide (n ≤ rch m e) = false := decide_eq_false ht
        clear hfew ht
        go_wp2
        go_roundg (hi - (m + 1))
        case measure => omega
        case rel => exact ⟨m + 1, hi, hle, h2, h3, Nat.le_refl _, by go_num, rfl, rfl⟩
    · have hltz : ¬ (lo : Int) < (hi : Int) := by omega
      have hq : lo = few e n := by omega
      have HQ := Aside0.mk hq
      clear hq
      go_wp2
      go_ret
      exact ⟨by rw [← HQ.out]; rfl, rfl⟩
set_option maxHeartbeats 4000000 in
set_option maxRecDepth 100000 in
theorem best_calls (g e : Nat) (n : Int) (w : World) (he0 : 1 ≤ e) (he : e ≤ 10) (hn : 1 ≤ n) (hn2 : n ≤ 1000) (hR : IsReaches w g) :
    Calls Try.prog 43 #[.pointer (some ⟨g, 0, none⟩), .int .i64 e, .int .i64 n] w fun e' w' => e' = .returned (.int .i64 (bestF e n)) ∧ ∃ m, w' = w.drewN m := by
  have HF : Aside0 (∀ q, Calls Try.prog 73 #[.pointer (some ⟨g, 0, none⟩), .int .i64 e, .int .i64 n] (w.drewN q) fun e' w' => e' = .returned (.int .i64 (few e n)) ∧ w' = w.drewN q) :=
    ⟨fun q => (fewest_calls g e n (w.drewN q) he0 he ⟨hR.out⟩).mono fun _ _ h => ⟨h.1, h.2.symm⟩⟩
  obtain ⟨t, ht⟩ : ∃ t, few e n = t + 1 := ⟨few e n - 1, by have := few_pos e n hn; omega⟩
  have ht2 : t ≤ 999 := by have := few_le e n; omega
  have hx := hR.at_ t e (by omega) he
  have hb : bestF e n = max 1 (n - rch t e) := by unfold bestF; rw [ht]; rfl
  rw [ht] at HF
  rw [hb]
  have hr := rch_range t e
  clear hb ht hR
  generalize rch t e = y at hx hr ⊢
  have hz0 : (0 : Int) ≤ (e : Int) := by omega
  have hz1 : (e : Int) < 11 := by omega
  rcases (by omega : 1 < n - y ∨ n - y ≤ 1) with hm | hm
  case' inl => rw [show max 1 (n - y) = n - y by omega]
  case' inr => rw [show max 1 (n - y) = 1 by omega]
  all_goals
    go_enter Try.func43, Try.ntmps43
    go_wp2
    go_quiet (first | (go_at_call 73; refine Calls.quiet_of_same (HF.out _)))
    go_wp2
    go_ret
    exact ⟨rfl, _, rfl⟩

/-! ### impl_within: function 57 -/
def impl_within.f (a0 : Int) (a1 : Int) (a2 : Int) : Option (Bool) := if a0 ≥ a1 then (some (decide (a0 ≤ a2))) else (some false)
set_option maxHeartbeats 8000000 in
set_option maxRecDepth 100000 in
theorem impl_within.calls (a0 : Int) (a1 : Int) (a2 : Int) (r : Bool) (w : World) (h : impl_within.f a0 a1 a2 = some r) :
    Calls Try.prog 57 #[.int .i64 a0, .int .i64 a1, .int .i64 a2] w fun e w' => e = .returned (.bool r) ∧ Drawn0 w w' := by
  have H : (if a0 ≥ a1 then (some (decide (a0 ≤ a2))) else (some false)) = some r := h
  clear h
  by_cases c4 : a0 ≥ a1
  · rw [if_pos c4] at H
    have c4b0 : decide (a1 ≤ a0) = true := decide_eq_true c4
    clear c4
    obtain rfl := Option.some.inj H
    go_enter Try.func57, Try.ntmps57
    go_wp2
    go_ret
    exact ⟨by first | rfl | (simp; done) | (simp [*]; done), by repeat (first | exact Drawn0.refl _ | apply Drawn0.step)⟩
  · rw [if_neg c4] at H
    have c4b0 : decide (a1 ≤ a0) = false := decide_eq_false c4
    clear c4
    obtain rfl := Option.some.inj H
    go_enter Try.func57, Try.ntmps57
    go_wp2
    go_ret
    exact ⟨by first | rfl | (simp; done) | (simp [*]; done), by repeat (first | exact Drawn0.refl _ | apply Drawn0.step)⟩

set_option maxHeartbeats 8000000 in
set_option maxRecDepth 100000 in
theorem impl_within.calls0 (a0 : Int) (a1 : Int) (a2 : Int) (r : Bool) (w : World) (h : impl_within.f a0 a1 a2 = some r) :
    Calls Try.prog 57 #[.int .i64 a0, .int .i64 a1, .int .i64 a2] w fun e w' => e = .returned (.bool r) ∧ w = w' := by
  have H : (if a0 ≥ a1 then (some (decide (a0 ≤ a2))) else (some false)) = some r := h
  clear h
  by_cases c4 : a0 ≥ a1
  · rw [if_pos c4] at H
    have c4b0 : decide (a1 ≤ a0) = true := decide_eq_true c4
    clear c4
    obtain rfl := Option.some.inj H
    go_enter Try.func57, Try.ntmps57
    go_wp2
    go_ret
    exact ⟨by first | rfl | (simp; done) | (simp [*]; done), by first | rfl | simp⟩
  · rw [if_neg c4] at H
    have c4b0 : decide (a1 ≤ a0) = false := decide_eq_false c4
    clear c4
    obtain rfl := Option.some.inj H
    go_enter Try.func57, Try.ntmps57
    go_wp2
    go_ret
    exact ⟨by first | rfl | (simp; done) | (simp [*]; done), by first | rfl | simp⟩

/-! behind impl_within -/
theorem impl_within_is (a lo hi : Int) : impl_within.f a lo hi = some (decide (lo ≤ a) && decide (a ≤ hi)) := by
  unfold impl_within.f
  by_cases h : a ≥ lo
  · rw [if_pos h, decide_eq_true (by omega : lo ≤ a)]; rfl
  · rw [if_neg h, decide_eq_false (by omega : ¬ lo ≤ a)]; rfl

/-! ### impl_isEggs: function 76 -/
def impl_isEggs.f (a0 : Int) : Option (Bool) := (impl_within.f a0 1 10).bind fun t156 => (some t156)
set_option maxHeartbeats 8000000 in
set_option maxRecDepth 100000 in
theorem impl_isEggs.calls (a0 : Int) (r : Bool) (w : World) (h : impl_isEggs.f a0 = some r) :
    Calls Try.prog 76 #[.int .i64 a0] w fun e w' => e = .returned (.bool r) ∧ Drawn0 w w' := by
  have H : ((impl_within.f a0 1 10).bind fun t156 => (some t156)) = some r := h
  clear h
  replace H := Option.bind_eq_some_iff.mp H
  obtain ⟨t156, A20, H⟩ := H
  replace H : (some t156) = some r := H
  have A2 := Aside0.mk A20
  clear A20
  obtain rfl := Option.some.inj H
  go_enter Try.func76, Try.ntmps76
  go_wp2_with (first | ((with_reducible refine gate_callee (f := 57) rfl ?_); refine goesL_ (some 4) rfl rfl Try.func57 (by kernel_rfl) rfl #[.int .i64 a0, .int .i64 1, .int .i64 10] rfl (by (try simp only [List.map_toArray, List.map_cons, List.map_nil]); first | done | rfl | (simp only [List.length_drop, List.length_take]; rfl)) ?_; (with_reducible refine (impl_within.calls0 a0 1 10 t156 _ A2.out).mono ?_); rintro e w' ⟨rfl, rfl⟩; refine ⟨_, rfl, ?_⟩))
  go_ret
  exact ⟨by first | rfl | (simp; done) | (simp [*]; done), by repeat (first | exact Drawn0.refl _ | apply Drawn0.step)⟩

set_option maxHeartbeats 8000000 in
set_option maxRecDepth 100000 in
theorem impl_isEggs.calls0 (a0 : Int) (r : Bool) (w : World) (h : impl_isEggs.f a0 = some r) :
    Calls Try.prog 76 #[.int .i64 a0] w fun e w' => e = .returned (.bool r) ∧ w = w' := by
  have H : ((impl_within.f a0 1 10).bind fun t156 => (some t156)) = some r := h
  clear h
  replace H := Option.bind_eq_some_iff.mp H
  obtain ⟨t156, A20, H⟩ := H
  replace H : (some t156) = some r := H
  have A2 := Aside0.mk A20
  clear A20
  obtain rfl := Option.some.inj H
  go_enter Try.func76, Try.ntmps76
  go_wp2_with (first | ((with_reducible refine gate_callee (f := 57) rfl ?_); refine goesL_ (some 4) rfl rfl Try.func57 (by kernel_rfl) rfl #[.int .i64 a0, .int .i64 1, .int .i64 10] rfl (by (try simp only [List.map_toArray, List.map_cons, List.map_nil]); first | done | rfl | (simp only [List.length_drop, List.length_take]; rfl)) ?_; (with_reducible refine (impl_within.calls0 a0 1 10 t156 _ A2.out).mono ?_); rintro e w' ⟨rfl, rfl⟩; refine ⟨_, rfl, ?_⟩))
  go_ret
  exact ⟨by first | rfl | (simp; done) | (simp [*]; done), by first | rfl | simp⟩

/-! behind impl_isEggs -/
theorem impl_isEggs_is (a : Int) : impl_isEggs.f a = some (decide (1 ≤ a) && decide (a ≤ 10)) := by unfold impl_isEggs.f; rw [impl_within_is]; rfl

/-! ### impl_isFloors: function 77 -/
def impl_isFloors.f (a0 : Int) : Option (Bool) := (impl_within.f a0 0 1000).bind fun t157 => (some t157)
set_option maxHeartbeats 8000000 in
set_option maxRecDepth 100000 in
theorem impl_isFloors.calls (a0 : Int) (r : Bool) (w : World) (h : impl_isFloors.f a0 = some r) :
    Calls Try.prog 77 #[.int .i64 a0] w fun e w' => e = .returned (.bool r) ∧ Drawn0 w w' := by
  have H : ((impl_within.f a0 0 1000).bind fun t157 => (some t157)) = some r := h
  clear h
  replace H := Option.bind_eq_some_iff.mp H
  obtain ⟨t157, A20, H⟩ := H
  replace H : (some t157) = some r := H
  have A2 := Aside0.mk A20
  clear A20
  obtain rfl := Option.some.inj H
  go_enter Try.func77, Try.ntmps77
  go_wp2_with (first | ((with_reducible refine gate_callee (f := 57) rfl ?_); refine goesL_ (some 4) rfl rfl Try.func57 (by kernel_rfl) rfl #[.int .i64 a0, .int .i64 0, .int .i64 1000] rfl (by (try simp only [List.map_toArray, List.map_cons, List.map_nil]); first | done | rfl | (simp only [List.length_drop, List.length_take]; rfl)) ?_; (with_reducible refine (impl_within.calls0 a0 0 1000 t157 _ A2.out).mono ?_); rintro e w' ⟨rfl, rfl⟩; refine ⟨_, rfl, ?_⟩))
  go_ret
  exact ⟨by first | rfl | (simp; done) | (simp [*]; done), by repeat (first | exact Drawn0.refl _ | apply Drawn0.step)⟩

set_option maxHeartbeats 8000000 in
set_option maxRecDepth 100000 in
theorem impl_isFloors.calls0 (a0 : Int) (r : Bool) (w : World) (h : impl_isFloors.f a0 = some r) :
    Calls Try.prog 77 #[.int .i64 a0] w fun e w' => e = .returned (.bool r) ∧ w = w' := by
  have H : ((impl_within.f a0 0 1000).bind fun t157 => (some t157)) = some r := h
  clear h
  replace H := Option.bind_eq_some_iff.mp H
  obtain ⟨t157, A20, H⟩ := H
  replace H : (some t157) = some r := H
  have A2 := Aside0.mk A20
  clear A20
  obtain rfl := Option.some.inj H
  go_enter Try.func77, Try.ntmps77
  go_wp2_with (first | ((with_reducible refine gate_callee (f := 57) rfl ?_); refine goesL_ (some 4) rfl rfl Try.func57 (by kernel_rfl) rfl #[.int .i64 a0, .int .i64 0, .int .i64 1000] rfl (by (try simp only [List.map_toArray, List.map_cons, List.map_nil]); first | done | rfl | (simp only [List.length_drop, List.length_take]; rfl)) ?_; (with_reducible refine (impl_within.calls0 a0 0 1000 t157 _ A2.out).mono ?_); rintro e w' ⟨rfl, rfl⟩; refine ⟨_, rfl, ?_⟩))
  go_ret
  exact ⟨by first | rfl | (simp; done) | (simp [*]; done), by first | rfl | simp⟩

/-! behind impl_isFloors -/
theorem impl_isFloors_is (a : Int) : impl_isFloors.f a = some (decide (0 ≤ a) && decide (a ≤ 1000)) := by unfold impl_isFloors.f; rw [impl_within_is]; rfl

end Go.Proofs.Ytiahedkmlacpkaa.PrintA
