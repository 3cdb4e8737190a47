-- written by this session's own driver (wip/gen.py) with the kit's print and contracts of our own
import Derived.Test.YtfelkkonjbhkjaaPrintA0
import Derived.Test.YtfelkkonjbhkjaaPrintA1
import Derived.Test.YtfelkkonjbhkjaaPrintA2
import Derived.Test.YtfelkkonjbhkjaaPrintA3
import Derived.Test.YtfelkkonjbhkjaaPrintA6
namespace Go.Proofs.Ytfelkkonjbhkjaa.PrintA
open Go.RowKit Go.Proofs.YtfelkkonjbhkjaaLib Go.Proofs.YtfelkkonjbhkjaaW.PrintWords Go.Proofs.YtfelkkonjbhkjaaW.PrintLast Go.Proofs.YtfelkkonjbhkjaaW.PrintMore
attribute [local go_sem] max2_int min2_int max_two min_two max_three min_three max_four min_four   -- for this text's walks alone
set_option linter.unusedVariables false
set_option linter.unusedSimpArgs false

/-! ### spec_HardestBreaks: function 7 -/
def spec_HardestBreaks.l0 : Nat → Int → List Int → List Int → Int → Int → Option (List Int × Bool)
  | 0, _, _, _, _, _ => none
  | k + 1, x6, x7, x16, x17, x18 => if x18 < x17 then (if 0 ≤ x18 then (if x18 < (x16.length : Int) then (if (rd x16 x18) > x6 then (if (rd x16 x18) = (rd x16 x18) then (if ([] : List Int).length < 17592186044416 then (spec_HardestBreaks.l0 k (rd x16 x18) (([] : List Int) ++ [x18]) x16 x17 (wrap64 (x18 + 1))) else (none)) else (spec_HardestBreaks.l0 k (rd x16 x18) ([] : List Int) x16 x17 (wrap64 (x18 + 1)))) else (if (rd x16 x18) = x6 then (if x7.length < 17592186044416 then (spec_HardestBreaks.l0 k x6 (x7 ++ [x18]) x16 x17 (wrap64 (x18 + 1))) else (none)) else (spec_HardestBreaks.l0 k x6 x7 x16 x17 (wrap64 (x18 + 1))))) else (none)) else (none)) else (some (x7, true))
def spec_HardestBreaks.f (k : Nat) (a0 : Int) (a1 : Int) : Option (List Int × Bool) := (spec_flBoth.f a0 a1).bind fun t175 => (if t175 = true then ((spec_flCounts.f k a0 a1).bind fun t176 => (spec_HardestBreaks.l0 k (-1) ([] : List Int) t176 (t176.length : Int) 0)) else (some (([] : List Int), false)))
theorem spec_HardestBreaks.mono_l : ∀ k, (∀ y0 y1 y2 y3 y4, LeO (spec_HardestBreaks.l0 k y0 y1 y2 y3 y4) (spec_HardestBreaks.l0 (k + 1) y0 y1 y2 y3 y4))
  | 0 => fun _ _ _ _ _ r h => by simp [spec_HardestBreaks.l0] at h
  | k + 1 => by
    have ih0 := spec_HardestBreaks.mono_l k
    · intro y0 y1 y2 y3 y4
      unfold spec_HardestBreaks.l0
      repeat' first
      | (with_reducible exact ih0 _ _ _ _ _)
      | (with_reducible exact spec_flCounts.mono _ _ _)
      | (with_reducible exact LeO.refl _)
      | (with_reducible exact LeO.none _)
      | (with_reducible refine LeO.ite ?_ ?_)
      | (with_reducible refine LeO.bind ?_ (fun _ => ?_))
      | exact ih0 _ _ _ _ _
      | exact spec_flCounts.mono _ _ _
      | exact LeO.none _
      | refine LeO.ite ?_ ?_
      | refine LeO.bind ?_ (fun _ => ?_)
theorem spec_HardestBreaks.mono : ∀ a0 a1 k, LeO (spec_HardestBreaks.f k a0 a1) (spec_HardestBreaks.f (k + 1) a0 a1) := by
  intro a0 a1 k
  have ih0 := spec_HardestBreaks.mono_l k
  unfold spec_HardestBreaks.f
  repeat' first
      | (with_reducible exact ih0 _ _ _ _ _)
      | (with_reducible exact spec_flCounts.mono _ _ _)
      | (with_reducible exact LeO.refl _)
      | (with_reducible exact LeO.none _)
      | (with_reducible refine LeO.ite ?_ ?_)
      | (with_reducible refine LeO.bind ?_ (fun _ => ?_))
      | exact ih0 _ _ _ _ _
      | exact spec_flCounts.mono _ _ _
      | exact LeO.none _
      | refine LeO.ite ?_ ?_
      | refine LeO.bind ?_ (fun _ => ?_)
set_option maxHeartbeats 8000000 in
set_option maxRecDepth 100000 in
theorem spec_HardestBreaks.calls (k : Nat) (a0 : Int) (a1 : Int) (r1 : List Int) (r2 : Bool) (w : World) (h : spec_HardestBreaks.f k a0 a1 = some (r1, r2)) :
    Calls Try.prog 7 #[.int .i64 a0, .int .i64 a1] w fun e w' => ∃ v0_ : Value, e = .returned (.tuple #[v0_, .bool r2]) ∧ Kd.R (Kd.int .i64) 3 w' w.heap.size (fun _ => True) v0_ r1 ∧ Below w.heap.size w w' := by
  have HB := Aside0.mk (Below.refl w.heap.size w)
  have H : ((spec_flBoth.f a0 a1).bind fun t175 => (if t175 = true then ((spec_flCounts.f k a0 a1).bind fun t176 => (spec_HardestBreaks.l0 k (-1) ([] : List Int) t176 (t176.length : Int) 0)) else (some (([] : List Int), false)))) = some (r1, r2) := h
  clear h
  replace H := Option.bind_eq_some_iff.mp H
  obtain ⟨t175, A30, H⟩ := H
  replace H : (if t175 = true then ((spec_flCounts.f k a0 a1).bind fun t176 => (spec_HardestBreaks.l0 k (-1) ([] : List Int) t176 (t176.length : Int) 0)) else (some (([] : List Int), false))) = some (r1, r2) := H
  have A3 := Aside0.mk A30
  clear A30
  by_cases c4 : t175 = true
  · subst c4
    have H1 : ((spec_flCounts.f k a0 a1).bind fun t176 => (spec_HardestBreaks.l0 k (-1) ([] : List Int) t176 (t176.length : Int) 0)) = some (r1, r2) := by rw [if_pos rfl] at H; exact H
    clear H
    have H := H1
    clear H1
    replace H := Option.bind_eq_some_iff.mp H
    obtain ⟨t176, A50, H⟩ := H
    replace H : (spec_HardestBreaks.l0 k (-1) ([] : List Int) t176 (t176.length : Int) 0) = some (r1, r2) := H
    have A5 := Aside0.mk A50
    clear A50
    have H' := Aside0.mk H
    clear H
    go_enter Try.func7, Try.ntmps7
    go_wp2_with (first | ((with_reducible refine gate_callee (f := 39) rfl ?_); refine goesL_ (some 12) rfl rfl Try.func39 (by kernel_rfl) rfl #[.int .i64 a0, .int .i64 a1] rfl (by (try simp only [List.map_toArray, List.map_cons, List.map_nil]); first | done | rfl | (simp only [List.length_drop, List.length_take]; rfl)) ?_; (with_reducible refine (spec_flBoth.calls0 a0 a1 true _ A3.out).mono ?_); rintro e w' ⟨rfl, rfl⟩; refine ⟨_, rfl, ?_⟩) | ((with_reducible refine gate_callee (f := 40) rfl ?_); refine goesL_ (some 16) rfl rfl Try.func40 (by kernel_rfl) rfl #[.int .i64 a0, .int .i64 a1] rfl (by (try simp only [List.map_toArray, List.map_cons, List.map_nil]); first | done | rfl | (simp only [List.length_drop, List.length_take]; rfl)) ?_; (with_reducible refine (spec_flCounts.calls k a0 a1 t176 _ A5.out).mono ?_); rintro e w6 ⟨v177, rfl, ho0, hb⟩; refine ⟨_, rfl, ?_⟩; have n0_ := Aside0.mk (Kd.R_lower ho0 (below_size (by repeat (first | (with_reducible first | exact HB.out | apply below_alloc | apply pw_below_drewN | apply below_drew1) | exact HB.out)))); have n1_ := Aside0.mk (below_step (by repeat (first | (with_reducible first | exact HB.out | apply below_alloc | apply pw_below_drewN | apply below_drew1) | exact HB.out)) hb); clear HB; have HO178 := n0_; have HB := n1_; clear n0_ n1_; (try clear hb); (try clear hb2); (try clear hk); (try clear hi); (try clear ho0); obtain ⟨Ao7, co7, eo7⟩ := Kd.R_slice HO178.out; subst eo7))
    go_loopg [6, 7, 18] k (fun kq v6 v7 v18 w' => ∃ (x6_1 : Int) (x7_1 : List Int) (x18_1 : Int), v6 = .int .i64 x6_1 ∧ v18 = .int .i64 x18_1 ∧ Aside0 (spec_HardestBreaks.l0 kq x6_1 x7_1 t176 (t176.length : Int) x18_1 = some (r1, r2)) ∧ Aside0 (kq ≤ k) ∧ Aside0 (Kd.R (Kd.int .i64) 3 w' w.heap.size (fun k_ => some k_ ≠ ((.slice Ao7 t176.length co7) : Value).ownBlock) v7 x7_1) ∧ Aside0 (Kd.R (Kd.int .i64) 3 w' w.heap.size (fun k_ => some k_ ≠ (v7 : Value).ownBlock) (.slice Ao7 t176.length co7) t176) ∧ Aside0 (Below w.heap.size w w'))
    case atStart => exact ⟨((-1)), (([] : List Int)), (0), (by first | rfl | (simp; done) | (simp [*]; done)), (by first | rfl | (simp; done) | (simp [*]; done)), H', ⟨Nat.le_refl _⟩, ⟨by first | exact Kd.R_nil _ _ _ _ _ | exact Kd.N_nil _ _ _ _ _ | exact Kd.V_nil _ _ _ _ _ | exact Kd.Q_nil _ _ _ _ _ | exact Kd.S_nil _ _ _ _ _⟩, ⟨by (with_reducible repeat (first | apply Kd.R_alloc | apply Kd.R_drewN | apply Kd.R_drew)); exact Kd.R_mono HO178.out (fun _ hk => (by simp [Value.ownBlock]))⟩, ⟨by repeat (first | (with_reducible first | exact HB.out | apply below_alloc | apply pw_below_drewN | apply below_drew1) | exact HB.out)⟩⟩
    case round =>
      clear H'
      try clear p2
      try clear c3
      try clear c4
      try clear c7
      obtain ⟨x6_1, x7_1, x18_1, rfl, rfl, HA, HK1, HO_7, HO_16, HB⟩ := hrel
      cases gk with
      | zero => exact absurd HA.out (by simp [spec_HardestBreaks.l0])
      | succ k1 =>
        have H := HA.out
        clear HA
        simp only [spec_HardestBreaks.l0] at H
        by_cases c8 : x18_1 < (t176.length : Int)
        · rw [if_pos c8] at H
          have c8b0 : decide (x18_1 < (t176.length : Int)) = true := decide_eq_true c8
          clear c8
          by_cases c9 : 0 ≤ x18_1
          · rw [if_pos c9] at H
            have c9b0 : decide (0 ≤ x18_1) = true := decide_eq_true c9
            clear c9
            by_cases c10 : x18_1 < (t176.length : Int)
            · rw [if_pos c10] at H
              have c10b0 : decide (x18_1 < (t176.length : Int)) = true := decide_eq_true c10
              clear c10
              by_cases c11 : (rd t176 x18_1) > x6_1
              · rw [if_pos c11] at H
                have c11b0 : decide (x6_1 < (rd t176 x18_1)) = true := decide_eq_true c11
                clear c11
                by_cases c12 : (rd t176 x18_1) = (rd t176 x18_1)
                · first | rw [if_pos c12] at H | rw [if_pos trivial] at H
                  have c12b0 : ((rd t176 x18_1) == (rd t176 x18_1)) = true := beq_iff_eq.mpr c12
                  have c12b1 : ((rd t176 x18_1) != (rd t176 x18_1)) = false := bne_eq_false_iff_eq.mpr c12
                  clear c12
                  by_cases c13 : ([] : List Int).length < 17592186044416
                  · rw [if_pos c13] at H
                    have LMc13 := Aside0.mk c13
                    clear c13
                    obtain ⟨y180, hy180⟩ : ∃ y_ : List Int, y_ = (([] : List Int) ++ [x18_1]) := ⟨_, rfl⟩
                    replace H : (spec_HardestBreaks.l0 k1 (rd t176 x18_1) y180 t176 (t176.length : Int) (wrap64 (x18_1 + 1))) = some (r1, r2) := by first | (rw [hy180]; with_reducible exact H) | (have H2_ := (Option.bind_some _ _).symm.trans H; rw [hy180]; with_reducible exact H2_) | (have H2_ := (Option.bind_some _ _).symm.trans H; with_reducible exact H2_) | with_reducible exact H | (rw [hy180]; exact H) | exact H
                    have Ny180 := Aside0.mk hy180
                    clear hy180
                    have H' := Aside0.mk H
                    clear H
                    have p179 : 0 ≤ (x18_1 : Int) := of_decide_eq_true (by first | (with_reducible assumption) | assumption)
                    have q179 : x18_1 < (t176.length : Int) := of_decide_eq_true (by first | (with_reducible assumption) | assumption)
                    obtain ⟨ad179, e179, hx179_0⟩ := Kd.at_int (Kd.R_reads' HO_16.out).2.2 x18_1 p179 q179
                    cases e179
                    replace p179 := eq_true p179
                    replace q179 := eq_true q179
                    go_wp2_with (first | ((with_reducible refine gate_builtin (b := .append) (xs := #[.tmp 30, .tmp 32]) rfl ?_); at_builtin; refine Kd.R_append (Kd.int .i64) (w0 := w) w.heap.size rfl (.tmp 30) (.tmp 32) 26 3 (.int .i64 0) 8 rfl Try.underlying26 info3 rfl (by decide) (by omega) (.slice none 0 0) ([] : List Int) x18_1 [.int .i64 x18_1] (fun k_ => some k_ ≠ (u7 : Value).ownBlock ∧ some k_ ≠ (.slice (some ad179) t176.length co7 : Value).ownBlock) (fun _ => False) rfl rfl ?aP (fun _ hk => hk.elim) ?aF ?aO ?aB ?aS ?aL ?_; (case aP => exact rfl); (case aB => exact (by repeat (first | (with_reducible first | exact HB.out | apply below_alloc | apply pw_below_drewN | apply below_drew1) | exact HB.out))); (case aF => exact (fun k_ hk => ⟨Kd.fresh' (Kd.R_lt (by (with_reducible repeat (first | apply Kd.R_alloc | apply Kd.R_drewN | apply Kd.R_drew)); exact HO_7.out)) k_ hk, Kd.fresh' (Kd.R_lt (by (with_reducible repeat (first | apply Kd.R_alloc | apply Kd.R_drewN | apply Kd.R_drew)); exact HO_16.out)) k_ hk⟩)); (case aO => exact ((Kd.R_nil _ _ _ _ (fun k_ => some k_ ≠ (u7 : Value).ownBlock ∧ some k_ ≠ (.slice (some ad179) t176.length co7 : Value).ownBlock)))); (case aS => exact (below_size (by repeat (first | (with_reducible first | exact HB.out | apply below_alloc | apply pw_below_drewN | apply below_drew1) | exact HB.out)))); (case aL => have := LMc13.out; omega); intro v181 w14 ho hb hg hat; rw [← Ny180.out] at ho; have n0_ := Aside0.mk (Kd.R_after (Kd.R_apart_nil (by (with_reducible repeat (first | apply Kd.R_alloc | apply Kd.R_drewN | apply Kd.R_drew)); exact HO_7.out)) hg hat); have n1_ := Aside0.mk (Kd.R_after (Kd.R_apart_nil (by (with_reducible repeat (first | apply Kd.R_alloc | apply Kd.R_drewN | apply Kd.R_drew)); exact HO_16.out)) hg hat); have n2_ := Aside0.mk (hb); have n3_ := Aside0.mk (ho); clear HO_7; clear HO_16; clear HB; have HO_7 := n0_; have HO_16 := n1_; have HB := n2_; have HO182 := n3_; clear n0_ n1_ n2_ n3_; clear ho hb hg hat))
                    go_roundg k1
                    case measure => have := HK1.out; omega
                    case rel => exact ⟨(rd t176 x18_1), (y180), (wrap64 (x18_1 + 1)), (by first | rfl | (simp; done) | (simp [*]; done)), (by first | rfl | (simp; done) | (simp [*]; done)), H', ⟨by have := HK1.out; omega⟩, ⟨by (with_reducible repeat (first | apply Kd.R_alloc | apply Kd.R_drewN | apply Kd.R_drew)); exact Kd.R_mono HO182.out (fun _ hk => hk.2)⟩, ⟨by (with_reducible repeat (first | apply Kd.R_alloc | apply Kd.R_drewN | apply Kd.R_drew)); exact Kd.R_mono HO_16.out (fun _ hk => hk.2)⟩, ⟨by repeat (first | (with_reducible first | exact HB.out | apply below_alloc | apply pw_below_drewN | apply below_drew1) | exact HB.out)⟩⟩
                  · rw [if_neg c13] at H
                    exact absurd H (by simp)
                · exact absurd rfl c12
              · rw [if_neg c11] at H
                have c11b0 : decide (x6_1 < (rd t176 x18_1)) = false := decide_eq_false c11
                clear c11
                by_cases c15 : (rd t176 x18_1) = x6_1
                · rw [if_pos c15] at H
                  have c15b0 : ((rd t176 x18_1) == x6_1) = true := beq_iff_eq.mpr c15
                  have c15b1 : ((rd t176 x18_1) != x6_1) = false := bne_eq_false_iff_eq.mpr c15
                  clear c15
                  by_cases c16 : x7_1.length < 17592186044416
                  · rw [if_pos c16] at H
                    have LMc16 := Aside0.mk c16
                    clear c16
                    obtain ⟨y183, hy183⟩ : ∃ y_ : List Int, y_ = (x7_1 ++ [x18_1]) := ⟨_, rfl⟩
                    replace H : (spec_HardestBreaks.l0 k1 x6_1 y183 t176 (t176.length : Int) (wrap64 (x18_1 + 1))) = some (r1, r2) := by first | (rw [hy183]; with_reducible exact H) | (have H2_ := (Option.bind_some _ _).symm.trans H; rw [hy183]; with_reducible exact H2_) | (have H2_ := (Option.bind_some _ _).symm.trans H; with_reducible exact H2_) | with_reducible exact H | (rw [hy183]; exact H) | exact H
                    have Ny183 := Aside0.mk hy183
                    clear hy183
                    have H' := Aside0.mk H
                    clear H
                    have p179 : 0 ≤ (x18_1 : Int) := of_decide_eq_true (by first | (with_reducible assumption) | assumption)
                    have q179 : x18_1 < (t176.length : Int) := of_decide_eq_true (by first | (with_reducible assumption) | assumption)
                    obtain ⟨ad179, e179, hx179_0⟩ := Kd.at_int (Kd.R_reads' HO_16.out).2.2 x18_1 p179 q179
                    cases e179
                    replace p179 := eq_true p179
                    replace q179 := eq_true q179
                    go_wp2_with (first | ((with_reducible refine gate_builtin (b := .append) (xs := #[.tmp 30, .tmp 32]) rfl ?_); at_builtin; refine Kd.R_append (Kd.int .i64) (w0 := w) w.heap.size rfl (.tmp 30) (.tmp 32) 26 3 (.int .i64 0) 8 rfl Try.underlying26 info3 rfl (by decide) (by omega) u7 x7_1 x18_1 [.int .i64 x18_1] (fun k_ => some k_ ≠ (.slice (some ad179) t176.length co7 : Value).ownBlock) (fun _ => False) rfl rfl ?aP (fun _ hk => hk.elim) ?aF ?aO ?aB ?aS ?aL ?_; (case aP => exact rfl); (case aB => exact (by repeat (first | (with_reducible first | exact HB.out | apply below_alloc | apply pw_below_drewN | apply below_drew1) | exact HB.out))); (case aF => exact (fun k_ hk => Kd.fresh' (Kd.R_lt (by (with_reducible repeat (first | apply Kd.R_alloc | apply Kd.R_drewN | apply Kd.R_drew)); exact HO_16.out)) k_ hk)); (case aO => exact (by (with_reducible repeat (first | apply Kd.R_alloc | apply Kd.R_drewN | apply Kd.R_drew)); exact HO_7.out)); (case aS => exact (below_size (by repeat (first | (with_reducible first | exact HB.out | apply below_alloc | apply pw_below_drewN | apply below_drew1) | exact HB.out)))); (case aL => have := LMc16.out; omega); intro v184 w17 ho hb hg hat; rw [← Ny183.out] at ho; have n0_ := Aside0.mk (Kd.R_after (ok := (fun _ => True)) (by (with_reducible repeat (first | apply Kd.R_alloc | apply Kd.R_drewN | apply Kd.R_drew)); exact Kd.R_mono HO_16.out (fun _ hk => ⟨trivial, hk⟩)) hg hat); have n1_ := Aside0.mk (hb); have n2_ := Aside0.mk (ho); clear HO_16; clear HB; clear HO_7; have HO_16 := n0_; have HB := n1_; have HO185 := n2_; clear n0_ n1_ n2_; clear ho hb hg hat))
                    go_roundg k1
                    case measure => have := HK1.out; omega
                    case rel => exact ⟨(x6_1), (y183), (wrap64 (x18_1 + 1)), (by first | rfl | (simp; done) | (simp [*]; done)), (by first | rfl | (simp; done) | (simp [*]; done)), H', ⟨by have := HK1.out; omega⟩, ⟨by (with_reducible repeat (first | apply Kd.R_alloc | apply Kd.R_drewN | apply Kd.R_drew)); exact HO185.out⟩, ⟨by (with_reducible repeat (first | apply Kd.R_alloc | apply Kd.R_drewN | apply Kd.R_drew)); exact Kd.R_mono HO_16.out (fun _ hk => hk.2)⟩, ⟨by repeat (first | (with_reducible first | exact HB.out | apply below_alloc | apply pw_below_drewN | apply below_drew1) | exact HB.out)⟩⟩
                  · rw [if_neg c16] at H
                    exact absurd H (by simp)
                · rw [if_neg c15] at H
                  have c15b0 : ((rd t176 x18_1) == x6_1) = false := beq_eq_false_iff_ne.mpr c15
                  have c15b1 : ((rd t176 x18_1) != x6_1) = true := bne_iff_ne.mpr c15
                  have H' := Aside0.mk H
                  clear H
                  have p179 : 0 ≤ (x18_1 : Int) := of_decide_eq_true (by first | (with_reducible assumption) | assumption)
                  have q179 : x18_1 < (t176.length : Int) := of_decide_eq_true (by first | (with_reducible assumption) | assumption)
                  obtain ⟨ad179, e179, hx179_0⟩ := Kd.at_int (Kd.R_reads' HO_16.out).2.2 x18_1 p179 q179
                  cases e179
                  replace p179 := eq_true p179
                  replace q179 := eq_true q179
                  go_wp2
                  go_roundg k1
                  case measure => have := HK1.out; omega
                  case rel => exact ⟨(x6_1), (x7_1), (wrap64 (x18_1 + 1)), (by first | rfl | (simp; done) | (simp [*]; done)), (by first | rfl | (simp; done) | (simp [*]; done)), H', ⟨by have := HK1.out; omega⟩, ⟨by (with_reducible repeat (first | apply Kd.R_alloc | apply Kd.R_drewN | apply Kd.R_drew)); exact HO_7.out⟩, ⟨by (with_reducible repeat (first | apply Kd.R_alloc | apply Kd.R_drewN | apply Kd.R_drew)); exact HO_16.out⟩, ⟨by repeat (first | (with_reducible first | exact HB.out | apply below_alloc | apply pw_below_drewN | apply below_drew1) | exact HB.out)⟩⟩
            · rw [if_neg c10] at H
              exact absurd H (by simp)
          · rw [if_neg c9] at H
            exact absurd H (by simp)
        · rw [if_neg c8] at H
          have c8b0 : decide (x18_1 < (t176.length : Int)) = false := decide_eq_false c8
          clear c8
          simp only [Option.some.injEq, Prod.mk.injEq] at H
          obtain ⟨rfl, rfl⟩ := H
          go_wp2
          go_ret2
          exact ⟨_, by first | rfl | (simp [errW_none, errW_some] <;> rfl) | (simp [*, errW_none, errW_some] <;> rfl), by (with_reducible repeat (first | apply Kd.R_alloc | apply Kd.R_drewN | apply Kd.R_drew)); exact Kd.R_mono HO_7.out (fun _ hk => trivial), by repeat (first | (with_reducible first | exact HB.out | apply below_alloc | apply pw_below_drewN | apply below_drew1) | exact HB.out)⟩
  · replace c4 := Bool.eq_false_iff.mpr c4
    subst c4
    have H1 : (some (([] : List Int), false)) = some (r1, r2) := by rw [if_neg (show ¬ (false = true) by decide)] at H; exact H
    clear H
    have H := H1
    clear H1
    simp only [Option.some.injEq, Prod.mk.injEq] at H
    obtain ⟨rfl, rfl⟩ := H
    go_enter Try.func7, Try.ntmps7
    go_wp2_with (first | ((with_reducible refine gate_callee (f := 39) rfl ?_); refine goesL_ (some 12) rfl rfl Try.func39 (by kernel_rfl) rfl #[.int .i64 a0, .int .i64 a1] rfl (by (try simp only [List.map_toArray, List.map_cons, List.map_nil]); first | done | rfl | (simp only [List.length_drop, List.length_take]; rfl)) ?_; (with_reducible refine (spec_flBoth.calls0 a0 a1 false _ A3.out).mono ?_); rintro e w' ⟨rfl, rfl⟩; refine ⟨_, rfl, ?_⟩))
    go_ret2
    exact ⟨_, by first | rfl | (simp [errW_none, errW_some] <;> rfl) | (simp [*, errW_none, errW_some] <;> rfl), by first | exact Kd.R_nil _ _ _ _ _ | exact Kd.N_nil _ _ _ _ _ | exact Kd.V_nil _ _ _ _ _ | exact Kd.Q_nil _ _ _ _ _ | exact Kd.S_nil _ _ _ _ _, by repeat (first | (with_reducible first | exact HB.out | apply below_alloc | apply pw_below_drewN | apply below_drew1) | exact HB.out)⟩

/-! behind spec_HardestBreaks -/
-- LIB Play
-- LIB Play
theorem playF_plN (F : Nat → Int → Int) (b : Int) : ∀ (k e : Nat) (n low : Int) (acc : List S61), (playF F b k e n low acc).length = acc.length + plN F k e n (b - low)
  | 0, _, _, _, acc => by simp [playF, plN]
  | k + 1, e, n, low, acc => by
    rw [playF, plN]
    by_cases hn : 0 < n
    · rw [if_pos hn, if_pos hn]
      by_cases h : low + F e n > b
      · rw [if_pos h, if_pos (by omega), playF_plN F b k (e - 1) (F e n - 1) low]
        simp; omega
      · rw [if_neg h, if_neg (by omega), playF_plN F b k e (n - F e n) (low + F e n), show b - (low + F e n) = b - low - F e n by omega]
        simp; omega
    · rw [if_neg hn, if_neg hn]; rfl
theorem playN_plN (e n : Nat) (b : Int) : playN e n b = (plN bestF n e n b : Int) := by
  unfold playN; rw [playF_plN, Int.sub_zero, Int.toNat_natCast]; simp
theorem hardest_l0 (n : Nat) (G : Int → Int) (L : List Int) (hL : L.length = n + 1) (hn : n ≤ 1000) (hG : ∀ i : Nat, i ≤ n → rd L (i : Int) = G i) : ∀ (d k i : Nat) (most : Int) (out : List Int), n + 1 - i = d → i ≤ n + 1 → d < k → out.length ≤ i →
    spec_HardestBreaks.l0 k most out L (L.length : Int) (i : Int) = some (greatL G n d i out most, true) := by
  intro d
  induction d with
  | zero =>
    intro k i most out hd hi hk ho
    obtain ⟨k, rfl⟩ : ∃ m, k = m + 1 := ⟨k - 1, by omega⟩
    rw [spec_HardestBreaks.l0, if_neg (by omega)]; rfl
  | succ d ih =>
    intro k i most out hd hi hk ho
    obtain ⟨k, rfl⟩ : ∃ m, k = m + 1 := ⟨k - 1, by omega⟩
    have e2 : wrap64 ((i : Int) + 1) = ((i + 1 : Nat) : Int) := by unfold wrap64; omega
    have e3 : ((i : Int) + 1) = ((i + 1 : Nat) : Int) := by omega
    rw [spec_HardestBreaks.l0, if_pos (by omega), if_pos (by omega), if_pos (by omega), hG i (by omega), e2, greatL, if_pos (show (i : Int) ≤ (n : Int) by omega)]
    by_cases h1 : G i > most
    · rw [if_pos h1, if_pos h1, if_pos rfl, if_pos (by simp), List.nil_append, e3]
      exact ih k (i + 1) _ _ (by omega) (by omega) (by omega) (by simp)
    · rw [if_neg h1, if_neg h1]
      by_cases h2 : G i = most
      · rw [if_pos h2, if_pos h2, if_pos (by omega), e3]
        exact ih k (i + 1) _ _ (by omega) (by omega) (by omega) (by simp; omega)
      · rw [if_neg h2, if_neg h2, e3]
        exact ih k (i + 1) _ _ (by omega) (by omega) (by omega) (by omega)
theorem greatL_len (G : Int → Int) (n : Int) : ∀ (d : Nat) (b : Int) (out : List Int) (most : Int), (greatL G n d b out most).length ≤ out.length + d
  | 0, _, out, _ => by simp [greatL]
  | d + 1, b, out, most => by
    rw [greatL]
    split
    · split
      · have := greatL_len G n d (b + 1) [b] (G b); simp at this; omega
      · split
        · have := greatL_len G n d (b + 1) (out ++ [b]) most; simp at this; omega
        · have := greatL_len G n d (b + 1) out most; omega
    · omega
def mxN (G : Int → Int) : Nat → Int
  | 0 => -1
  | b + 1 => max (mxN G b) (G (b : Int))
def fltG (G : Int → Int) (m : Int) (b : Nat) : List Int := ((List.range b).map (fun (q : Nat) => (q : Int))).filter (fun x => decide (G x = m))
theorem fltG_succ (G : Int → Int) (m : Int) (b : Nat) : fltG G m (b + 1) = if G (b : Int) = m then fltG G m b ++ [(b : Int)] else fltG G m b := by
  unfold fltG
  rw [List.range_succ, List.map_append, List.filter_append]
  by_cases h : G (b : Int) = m
  · rw [if_pos h]; simp [h]
  · rw [if_neg h]; simp [h]
theorem mxN_ge (G : Int → Int) : ∀ (b i : Nat), i < b → G (i : Int) ≤ mxN G b
  | 0, i, h => by omega
  | b + 1, i, h => by
    rw [mxN]
    by_cases hi : i = b
    · subst hi; omega
    · have := mxN_ge G b i (by omega); omega
theorem fltG_above (G : Int → Int) (m : Int) : ∀ b : Nat, mxN G b < m → fltG G m b = []
  | 0, _ => rfl
  | b + 1, h => by
    rw [mxN] at h
    rw [fltG_succ, if_neg (by omega), fltG_above G m b (by omega)]
theorem greatL_is (G : Int → Int) (n : Nat) : ∀ (d b : Nat), n + 1 - b = d → b ≤ n + 1 → greatL G n d (b : Int) (fltG G (mxN G b) b) (mxN G b) = fltG G (mxN G (n + 1)) (n + 1)
  | 0, b, hd, hb => by
    obtain rfl : b = n + 1 := by omega
    rfl
  | d + 1, b, hd, hb => by
    have ih := greatL_is G n d (b + 1) (by omega) (by omega)
    have e1 : ((b + 1 : Nat) : Int) = (b : Int) + 1 := by omega
    rw [e1, fltG_succ, mxN] at ih
    rw [greatL, if_pos (by omega)]
    by_cases h1 : G (b : Int) > mxN G b
    · rw [if_pos h1]
      rw [show max (mxN G b) (G (b : Int)) = G (b : Int) by omega, if_pos rfl, fltG_above G _ b (by omega), List.nil_append] at ih
      exact ih
    · rw [if_neg h1]
      rw [show max (mxN G b) (G (b : Int)) = mxN G b by omega] at ih
      by_cases h2 : G (b : Int) = mxN G b
      · rw [if_pos h2]
        rw [if_pos h2] at ih
        exact ih
      · rw [if_neg h2]
        rw [if_neg h2] at ih
        exact ih
theorem hard_is (G : Int → Int) (n : Nat) : greatL G n (n + 1) 0 [] (-1) = fltG G (mxN G (n + 1)) (n + 1) := greatL_is G n (n + 1) 0 (by omega) (by omega)
theorem fltG_mem (G : Int → Int) (m : Int) (n : Nat) (x : Nat) (hx : x < n) : (x : Int) ∈ fltG G m n ↔ G (x : Int) = m := by
  unfold fltG
  rw [List.mem_filter, List.mem_map]
  constructor
  · rintro ⟨_, h⟩
    simpa using h
  · intro h
    exact ⟨⟨x, List.mem_range.2 hx, rfl⟩, by simpa using h⟩
theorem fltG_rises (G : Int → Int) (m : Int) (n : Nat) : (fltG G m n).Pairwise (· < ·) := by
  unfold fltG
  refine List.Pairwise.filter _ ?_
  rw [List.pairwise_map]
  refine List.Pairwise.imp ?_ List.pairwise_lt_range
  intro a b h
  omega
theorem fltG_len (G : Int → Int) (m : Int) (n : Nat) : (fltG G m n).length ≤ n := by
  unfold fltG
  have := List.length_filter_le (fun x => decide (G x = m)) ((List.range n).map (fun (q : Nat) => (q : Int)))
  simpa using this
theorem mxN_att (G : Int → Int) : ∀ b : Nat, 1 ≤ b → (∀ i : Nat, i < b → 0 ≤ G (i : Int)) → ∃ i : Nat, i < b ∧ G (i : Int) = mxN G b
  | 0, h, _ => by omega
  | b + 1, _, hg => by
    have h0 := hg b (by omega)
    rw [mxN]
    by_cases h : mxN G b ≤ G (b : Int)
    · exact ⟨b, by omega, by omega⟩
    · have hb : 1 ≤ b := by
        rcases Nat.eq_zero_or_pos b with h1 | h1
        · subst h1; exact absurd (show mxN G 0 ≤ _ by rw [mxN]; omega) h
        · exact h1
      obtain ⟨i, hi, he⟩ := mxN_att G b hb (fun i hi => hg i (by omega))
      exact ⟨i, by omega, by omega⟩
/-- The most of all, from 0 on. -/
def mx0 (G : Int → Int) : Nat → Int
  | 0 => 0
  | b + 1 => max (mx0 G b) (G (b : Int))
theorem mx0_is (G : Int → Int) : ∀ b : Nat, 1 ≤ b → (∀ i : Nat, i < b → 0 ≤ G (i : Int)) → mx0 G b = mxN G b
  | 0, h, _ => by omega
  | b + 1, _, hg => by
    have h0 := hg b (by omega)
    rcases Nat.eq_zero_or_pos b with h1 | h1
    · subst h1; simp only [mx0, mxN]; omega
    · rw [mx0, mxN, mx0_is G b h1 (fun i hi => hg i (by omega))]
theorem hard_both (e n : Nat) (h1 : 1 ≤ e) (h2 : e ≤ 10) (h3 : n ≤ 1000) : impl_HardestBreaks.f e n = some (fltG (playN e n) (mxN (playN e n) (n + 1)) (n + 1), true) ∧ spec_HardestBreaks.f 40000 e n = some (fltG (playN e n) (mxN (playN e n) (n + 1)) (n + 1), true) := by
  have hpd : ((decide (1 ≤ (e : Int)) && decide ((e : Int) ≤ 10)) && (decide (0 ≤ (n : Int)) && decide ((n : Int) ≤ 1000))) = true := by simp; omega
  have hs := spec_flCounts_is n e 40000 (by omega) (by omega) (by omega) (by omega)
  have hG : ∀ i : Nat, i ≤ n → rd (cntL bestF e n) (i : Int) = playN e n i := by
    intro i hi
    rw [playN_plN]
    simp [rd, List.getD_eq_getElem?_getD, cntL, show i < n + 1 by omega]
  have hl := hardest_l0 n (playN e n) (cntL bestF e n) (cntL_length _ _ _) (by omega) hG (n + 1) 40000 0 (-1) [] (by omega) (by omega) (by omega) (by simp)
  refine ⟨?_, ?_⟩
  · unfold impl_HardestBreaks.f
    rw [impl_isHouse_is, hpd, Option.bind_some, if_pos rfl, Int.toNat_natCast, show ((n : Int) + 1).toNat = n + 1 by omega, hard_is]
  · unfold spec_HardestBreaks.f
    rw [spec_flBoth_is, hpd, Option.bind_some, if_pos rfl, hs, Option.bind_some, ← hard_is]
    exact hl

/-! behind laws_big -/
def LOnBig (code : List Int) (nc : Nat) (more : List Int) (nm : Nat) : Prop := ∀ W A c A' c', nc ≤ c → Kd.C (Kd.int .u8) W A nc code → nm ≤ c' → Kd.C (Kd.int .u8) W A' nm more → Calls Try.prog 4 #[.slice A nc c, .slice A' nm c'] W fun e w' => e = .returned (.bool false) ∧ Below W.heap.size W w'
def LDraw (F : Nat) (code : List Int) (nc : Nat) (a b : Int) : Prop := ∀ W A c, nc ≤ c → Kd.C (Kd.int .u8) W A nc code → Calls Try.prog F #[.slice A nc c] W fun e w' => e = .returned (.tuple #[.int .i64 a, .int .i64 b]) ∧ Below W.heap.size W w'
/-- Of two numbers: a list and a sign. -/
def LL2 (F : Nat) (a b : Int) (r : List Int) (m : Nat) (ok : Bool) : Prop := ∀ W, Calls Try.prog F #[.int .i64 a, .int .i64 b] W fun e w' => ∃ A1 c1, e = .returned (.tuple #[.slice A1 m c1, .bool ok]) ∧ m ≤ c1 ∧ Kd.C (Kd.int .i64) w' A1 m r ∧ Below W.heap.size W w'
/-- Of two numbers: a number and a sign. -/
def LN2 (F : Nat) (a b : Int) (r : Int) (ok : Bool) : Prop := ∀ W, Calls Try.prog F #[.int .i64 a, .int .i64 b] W fun e w' => e = .returned (.tuple #[.int .i64 r, .bool ok]) ∧ Below W.heap.size W w'
def LN3 (F : Nat) (a b d : Int) (r : Int) (ok : Bool) : Prop := ∀ W, Calls Try.prog F #[.int .i64 a, .int .i64 b, .int .i64 d] W fun e w' => e = .returned (.tuple #[.int .i64 r, .bool ok]) ∧ Below W.heap.size W w'
def LD3 (F : Nat) (a b d : Int) (r : List S61) (m : Nat) (ok : Bool) : Prop := ∀ W, Calls Try.prog F #[.int .i64 a, .int .i64 b, .int .i64 d] W fun e w' => ∃ A1 c1, e = .returned (.tuple #[.slice A1 m c1, .bool ok]) ∧ m ≤ c1 ∧ Kd.C k61 w' A1 m r ∧ Below W.heap.size W w'
def LSame (x : List Int) (n : Nat) : Prop := ∀ W A c A' c', n ≤ c → Kd.C (Kd.int .i64) W A n x → n ≤ c' → Kd.C (Kd.int .i64) W A' n x → Calls Try.prog 14 #[.slice A n c, .slice A' n c'] W fun e w' => e = .returned (.bool true) ∧ Below W.heap.size W w'
def LHas (x : List Int) (n : Nat) (q : Int) (b : Bool) : Prop := ∀ W A c, n ≤ c → Kd.C (Kd.int .i64) W A n x → Calls Try.prog 20 #[.slice A n c, .int .i64 q] W fun e w' => e = .returned (.bool b) ∧ Below W.heap.size W w'
def LRises (x : List Int) (n : Nat) : Prop := ∀ W A c, n ≤ c → Kd.C (Kd.int .i64) W A n x → Calls Try.prog 21 #[.slice A n c] W fun e w' => e = .returned (.bool true) ∧ Below W.heap.size W w'
def LOpen (n : Int) (x : List S61) (m : Nat) (b : Int) : Prop := ∀ W A c, m ≤ c → Kd.C k61 W A m x → Calls Try.prog 18 #[.int .i64 n, .slice A m c] W fun e w' => e = .returned (.tuple #[.int .i64 b, .int .i64 b, .bool true]) ∧ Below W.heap.size W w'
def LBrk (x : List S61) (m : Nat) (b : Int) : Prop := ∀ W A c, m ≤ c → Kd.C k61 W A m x → Calls Try.prog 19 #[.slice A m c] W fun e w' => e = .returned (.int .i64 b) ∧ Below W.heap.size W w'
/-- What the law's first half meets. -/
structure LF (code : List Int) (nc : Nat) (a n : Int) (hard : List Int) (nh : Nat) (good : List Int) (ng : Nat) (fw best : Int) (ok five : Bool) : Prop where
  draw : LDraw 5 code nc a n
  h1 : LL2 6 a n hard nh ok
  h2 : LL2 7 a n hard nh ok
  f1 : LN2 8 a n fw ok
  f2 : LN2 9 a n fw ok
  g1 : LL2 10 a n good ng ok
  g2 : LL2 11 a n good ng ok
  b1 : LN2 12 a n best five
  b2 : LN2 13 a n best five
  s1 : LSame hard nh
  s2 : LSame good ng
/-- What the law's loops meet. -/
structure LP (e n : Nat) (hard : List Int) (nh : Nat) (good : List Int) (ng : Nat) (fw best : Int) (five : Bool) (ds : Nat → List S61) (dl : Nat → Nat) (br mx : Nat → Int) (ab bl : Nat → Int) : Prop where
  cd : ∀ b, b ≤ n → LN3 15 e n (b : Int) (dl b) true
  pd : ∀ b, b ≤ n → LD3 16 e n (b : Int) (ds b) (dl b) true
  be : ∀ b, b ≤ n → LN3 17 e n (b : Int) (br b) true
  lo : ∀ b, b ≤ n → LOpen n (ds b) (dl b) (b : Int)
  eb : ∀ b, b ≤ n → LBrk (ds b) (dl b) (br b)
  dlf : ∀ b, b ≤ n → (dl b : Int) ≤ fw
  bre : ∀ b, b ≤ n → br b ≤ e
  mx0 : mx 0 = 0
  mxs : ∀ b, b ≤ n → mx (b + 1) = max (mx b) (dl b : Int)
  eh : ∀ b, b ≤ n → LHas hard nh (b : Int) ((dl b : Int) == mx (n + 1))
  r1 : LRises hard nh
  r2 : LRises good ng
  nh1 : 1 ≤ nh
  ng1 : five = true → 1 ≤ ng ∧ rd good 0 = best
  fwn : fw ≤ n
  fw1 : 1 ≤ n → 1 ≤ fw
  fa : ∀ f : Nat, 1 ≤ f → f ≤ n → LN2 8 e ((n : Int) - f) (ab f) true
  fb : 1 < e → ∀ f : Nat, 1 ≤ f → f ≤ n → LN2 8 ((e : Int) - 1) ((f : Int) - 1) (bl f) true
  bl0 : e = 1 → ∀ f : Nat, bl f = 0
  eg : ∀ f : Nat, 1 ≤ f → f ≤ n → LHas good ng (f : Int) (decide (1 < e ∨ f = 1) && decide (ab f < fw) && decide (bl f < fw))
/-- What the law's second half meets. -/
structure LS (more : List Int) (nm : Nat) (e t f u g h : Int) (reach : Int) (seven : Bool) (least : Int) (nine : Bool) (q : Int) (eleven : Bool) : Prop where
  d1 : LDraw 22 more nm e t
  r1 : LN2 23 e t reach seven
  r2 : LN2 24 e t reach seven
  d2 : LDraw 25 more nm f u
  f1 : LN2 26 f u least nine
  f2 : LN2 27 f u least nine
  d3 : LDraw 28 more nm g h
  t1 : LN2 8 g h q eleven
  t2 : LN2 9 g h q eleven
  sev : seven = true → ∃ en tn : Nat, e = (en : Int) ∧ t = (tn : Int) ∧ en ≤ 10 ∧ tn ≤ 1000 ∧ reach = sumC tn en ∧ reach ≤ 1000000000
  nin : nine = true → 1 ≤ least ∧ least ≤ 10 ∧ (∃ x, LN2 8 least f x true ∧ x ≤ u) ∧ (1 < least → ∃ x, LN2 8 (least - 1) f x true ∧ u < x)
  elv : eleven = true → 0 ≤ q ∧ q ≤ 1000 ∧ (∀ p : Int, (p = q - 1 ∨ p = q) → 0 ≤ p → ∃ x, LN2 23 g p x true ∧ (x ≥ h ↔ p = q))

end Go.Proofs.Ytfelkkonjbhkjaa.PrintA
